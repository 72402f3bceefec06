import Derived.WalkKit
import Derived.Laws.OwnMore
import Derived.WalkLawsBesides
import Derived.Laws.StructEq
import Derived.Laws.Cover3
import Derived.Laws.IdiomStrings
import Derived.Laws.Tables
import Derived.Laws.Slices
set_option linter.all false
namespace Go.AE
abbrev G0:=List UInt8
abbrev A0:=@List.length_cons
abbrev A7:=@List.length_append
abbrev A8:=@List.length_nil
abbrev A9:=@Bool.and_eq_true
abbrev B0:=@Nat.eq_of_beq_eq_true
abbrev B1:=@Option.some.injEq
abbrev B2:=@Nat.ble_eq_true_of_le
abbrev B3:=@Nat.le_of_ble_eq_true
abbrev B4:=@List.mem_append_right
abbrev B5:=@List.mem_append_left
abbrev B6:=@List.all_eq_true
abbrev B7:=@List.mem_cons
abbrev B8:=@List.mem_cons_self
abbrev B9:=@Nat.le_refl
abbrev C0:=@List.mem_cons_of_mem
abbrev C1:=@List.append_assoc
abbrev C2:=@List.getElem?_eq_getElem
abbrev C3:=@List.mem_singleton
abbrev C4:=@Nat.zero_le
abbrev C5:=@Nat.zero_add
abbrev C6:=@List.getElem_mem
abbrev C7:=@Prod.mk.injEq
abbrev C8:=@Array.getElem?_eq_getElem
abbrev C9:=@List.length_singleton
abbrev D0:=@Array.getElem?_toList
abbrev D3:=@List.eq_nil_of_length_eq_zero
abbrev D4:=@Array.getD_eq_getD_getElem?
abbrev D5:=@List.mem_append
abbrev D6:=@List.drop_eq_nil_of_le
abbrev D7:=@List.append_nil
abbrev D8:=@Bool.false_eq_true
abbrev D9:=@List.length_take
abbrev E1:=@Bool.not_eq_true'
abbrev E2:=@List.flatMap_cons
abbrev E3:=@Int.toNat_natCast
abbrev E4:=@Array.length_toList
abbrev E5:=@List.length_eq_zero_iff
abbrev E6:=@decide_eq_true
abbrev E7:=@of_decide_eq_true
abbrev E8:=@decide_eq_false
abbrev E9:=@of_decide_eq_false
abbrev F3:=@beq_self_eq_true
abbrev F4:=@beq_eq_false_iff_ne
abbrev F5:=@List.getElem?_append_right
abbrev F6:=@List.getElem_append_left
abbrev F7:=@List.mem_flatMap
abbrev F8:=@List.length_drop
theorem F9:(∀ {α:Type} (as bs:List α),(as++bs).length=as.length+bs.length)∧(∀ {α:Type} (a:α) (as:List α),(a::as).length=as.length+1)∧(∀ {α:Type},([]:List α).length=0):=⟨fun _ _=>List.length_append,fun _ _=>rfl,rfl⟩
inductive D where
 |top
 |bool (b:Bool)
 |int (k:IntKind) (n:Int)
 |str (s:G0)
 |Z (sz:Nat) (xs:List D)
 |nils (e sz:Nat)
 |und
 |agg (cs:List D)
 |fn (f:Nat)
 |nilp
 |nilf
 |nilm
 |nili
 |ub
 |iface (t:Nat) (x:D)
 |meth (t:Nat) (nm:String) (x:D)
instance:Inhabited D:=⟨.top⟩
namespace D
def b:D→Bool | .bool b=>b|_=>false
def i:D→Int | .int _ n=>n|_=>0
def s:D→G0 | .str s=>s|_=>[]
def l:D→List D | .Z _ xs=>xs|_=>[]
def cells:D→List D | .agg cs=>cs|x=>[x]
def Uq:D→D | .iface _ x=>x|_=> .top
def at_ (x:D)(j:Nat):D:=(x.cells)[j]?.getD .top
end D
mutual
def D.eq:D→D→Bool
 | .top,.top=>true
 | .bool a,.bool b=>a==b
 | .int k a,.int k' b=>decide (k=k')&&a==b
 | .str a,.str b=>a==b
 | .Z s xs,.Z t ys=>Nat.beq s t&&D.eqs xs ys
 | .nils a b,.nils c d=>Nat.beq a c&&Nat.beq b d
 | .und,.und=>true
 | .agg xs,.agg ys=>D.eqs xs ys
 | .fn f,.fn g=>Nat.beq f g
 | .nilp,.nilp=>true
 | .nilf,.nilf=>true
 | .nilm,.nilm=>true
 | .nili,.nili=>true
 | .ub,.ub=>true
 | .iface t x,.iface t' y=>Nat.beq t t'&&D.eq x y
 | .meth t n x,.meth t' n' y=>Nat.beq t t'&&(n==n')&&D.eq x y
 |_,_=>false
def D.eqs:List D→List D→Bool
 |[],[]=>true
 |x::xs,y::ys=>D.eq x y&&D.eqs xs ys
 |_,_=>false
end
inductive Y2 where
 |any|bool|int (k:IntKind)|str|Z (sz:Nat)
inductive Ty where
 |leaf (t:Y2)
 |agg (ts:List Y2)
 |ifc (t:Nat) (ts:List Y2)
def M0:Y2→D→Bool
 | .any,_=>true
 | .bool,.bool _=>true
 | .int k,.int k' _=>decide (k=k')
 | .str,.str _=>true
 | .Z sz,.Z sz' _=>Nat.beq sz sz'
 | .Z _,.nils _ _=>true
 |_,_=>false
def qD:Y2→D→D
 | .any,x=>x
 | .bool,x=> .bool x.b
 | .int k,x=> .int k x.i
 | .str,x=> .str x.s
 | .Z sz,x=> .Z sz x.l
def K1:List Y2→List D→Bool
 |[],[]=>true
 |t::ts,c::cs=>M0 t c&&K1 ts cs
 |_,_=>false
def aM:List Y2→D→Nat→List D
 |[],_,_=>[]
 |t::ts,x,j=>qD t (x.at_ j)::aM ts x (j+1)
def eG:Ty→D→Bool
 | .leaf t,x=>M0 t x
 | .agg ts,.agg cs=>K1 ts cs
 | .agg _,_=>false
 | .ifc t ts,.iface t' (.agg cs)=>Nat.beq t t'&&K1 ts cs
 | .ifc ..,_=>false
def L0:Ty→D→D
 | .leaf t,x=>qD t x
 | .agg ts,x=> .agg (aM ts x 0)
 | .ifc t ts,x=> .iface t (.agg (aM ts x.Uq 0))
inductive V where
 |d (x:D)
 |ptr (o off:Nat)
 |el (sz:Nat) (xs:List D) (i off:Nat)
 |rp (o sz i off:Nat)
 |row (o:Nat)
 |sub (o sz lo n:Nat)
 |agg (cs:List V)
 |fn (f:Nat) (caps:List V)
 |tup (vs:List V)
 |mp (o:Nat)
 |bp (t o off:Nat)
 |ir (o i:Nat)
 |irp (o i sz j:Nat)
instance:Inhabited V:=⟨.d .top⟩
abbrev V.top:V:= .d .top
inductive Ob where
 |var (cs:List V)
 |row (e sz:Nat) (xs:List D) (fz:Bool)
 |mp (kt:Y2) (xs:List D)
 |it (t mo:Nat) (xs:List D)
 |nst (e ie sz:Nat) (xs:List D)
structure Mk where
 k:Nat
 df:List (Nat×List (Nat×Nat))
structure St where
 t:Nat→V
 h:Nat→Option Ob
 m:Mk
abbrev St.n (st:St):Nat:=st.m.k
def St.set (st:St)(d:Nat)(v:V):St:={ st with t:=fun x=>bif Nat.beq x d then v else st.t x }
def St.put (st:St)(d:Option Nat)(v:V):St:=match d with|some d=>st.set d v|none=>st
def St.M7 (st:St)(o:Nat)(ob:Option Ob):St:={ st with h:=fun x=>bif Nat.beq x o then ob else st.h x }
abbrev Out:=Option (Bool×List D)
inductive SV where
 |d (t:Ty)
 |ptr (o off:Nat)
 |row (o:Nat)
 |fn (f:Nat) (caps:List SV)
 |agg (cs:List SV)
 |x
 |mp (o:Nat)
 |bp (t o off:Nat)
inductive eQ where
 |var (cs:List SV)
 |row (e sz mode:Nat)
 |gone
 |mp (kt:Y2)
 |it (t l:Nat)
 |nst (e ie sz mode:Nat)
structure Sk where
 slots:List (Nat×SV)
 objs:List eQ
inductive Task where
 |call (f:Nat) (sk:Sk) (ds:List D)
 |loop (f:Nat) (osk:Sk) (pre:List (Nat×Nat)) (df:List (Nat×List (Nat×Nat))) (once:Bool) (id:Nat) (body:Code) (sk:Sk) (ds:List D)
structure DR where
 m:Nat→Nat
 o:Nat→Option (List (Nat×SV)×List eQ)
structure Z6 where
 P:Program
 own:Nat→Nat→Nat
 dres:Nat→DR
 keep:Nat→Nat→List Nat
 cut:Nat→Nat→List Nat
 orc:Nat→Sk→List D→Option (List D)
 ext:Nat→List D→Option (Bool×List D)
 qH:(Nat→Option Obj)→Prop
 glob:Nat→Option (List D)
 ZR:Nat→Option Nat:=fun _=>none
 cc:Nat→Bool:=fun _=>false
 bstr:Nat→Bool:=fun _=>false
 bty:Nat:=0
 trn:Nat→Bool:=fun _=>false
 nowid:Nat→Nat→Bool:=fun _ _=>false
 wty:Nat→Nat→Bool:=fun _ _=>false
 wst:Nat→Bool:=fun _=>false
 nst:Nat→Bool:=fun _=>false
 nas:Nat→Bool:=fun _=>false
 dep:Nat:=3
 cln:Nat→Bool:=fun _=>false
 cm:Nat→Nat→Nat→Nat:=fun _ _ _=>0
def O5:TypeDesc→Bool
 | .struct _=>true
 | .array _ _=>true
 |_=>false
def J5 (P:Program)(t:TypeId):Bool:=match P.underlying t with|some d=>O5 d|none=>false
def qU (P:Program)(t:Nat)(nm:String):Option Nat:=
 match P.info? t,P.underlying t with
 |some _,some (.pointer _)=>none
 |some i,some _=>(match i.methods.find? (·.name==nm) with
  |some m=>bif m.path.isEmpty then (match m.func with|some (f,false)=>some f|_=>none) else none
  |none=>none)
 |_,_=>none
def K2 (P:Program)(t:TypeId):Nat:=match P.info? t with|some i=>i.size|none=>0
def O6 (P:Program)(t:TypeId):Option TypeId:=match P.underlying t with|some (.slice e)=>some e|_=>none
def jZ (P:Program)(t:TypeId):Bool:=(P.underlying t).isSome&&(P.info? t).isSome
def M6 (P:Program)(t:TypeId):Bool:=(O6 P t).isSome
def Q0 (P:Program)(t:TypeId):Y2:=
 match P.underlying t with
 |some .bool=> .bool
 |some (.int k)=> .int k
 |some .string=> .str
 |some (.slice e)=> .Z (K2 P e)
 |_=> .any
def qS (P:Program):Nat→TypeId→List Y2
 |0,_=>[]
 |n+1,t=>
  match P.underlying t with
  |some (.struct fs)=>fs.toList.flatMap fun f=>qS P n f.type
  |some (.array k e)=>(List.range k).flatMap fun _=>qS P n e
  |_=>[Q0 P t]
def kA (P:Program)(t:TypeId):Ty:=bif J5 P t then .agg (qS P 8 t) else .leaf (Q0 P t)
def nU (P:Program)(t:TypeId)(k:Nat):Option (Nat×TypeId):=
 match P.underlying t with
 |some (.struct fs)=>match fs[k]? with|some f=>some (f.offset,f.type)|none=>none
 |_=>none
def xC:Value→D
 | .bool b=> .bool b
 | .int k n=> .int k n
 | .string s=> .str s.data.toList
 | .slice none 0 0=> .nils 0 0
 | .pointer none=> .nilp
 | .nilFunc=> .nilf
 | .map none=> .nilm
 | .nilIface=> .nili
 |_=> .top
def EN:Value→D
 | .agg cs=> .agg (cs.toList.map xC)
 |v=>xC v
def vO (P:Program):Nat→TypeId→List TypeId
 |0,_=>[]
 |n+1,t=>
  match P.underlying t with
  |some (.struct fs)=>fs.toList.flatMap fun f=>vO P n f.type
  |some (.array k e)=>(List.range k).flatMap fun _=>vO P n e
  |_=>[t]
def zeroCell (P:Program)(t:TypeId)(x:D):D:=
 match x with
 | .nils _ _=>(match P.underlying t with|some (.slice e)=> .nils e (K2 P e)|_=>x)
 |x=>x
def zeroCells (P:Program):List TypeId→List D→List D
 |t::ts,x::xs=>zeroCell P t x::zeroCells P ts xs
 |[],xs=>xs
 |_,[]=>[]
def AI (P:Program)(t:TypeId):Option D:=
 match P.info? t with
 |some i=>(match i.zero with
  |some z=>(match EN z with
   | .agg cs=>some (.agg (zeroCells P (vO P 8 t) cs))
   |x=>some (zeroCell P t x))
  |none=>none)
 |none=>none
def V.cells:V→List V
 | .d (.agg cs)=>cs.map V.d
 | .agg cs=>cs
 |v=>[v]
def W8:V→Bool
 | .d .top=>false
 | .d .und=>false
 | .d (.agg _)=>false
 | .agg _=>false
 | .tup _=>false
 | .bp ..=>false
 |_=>true
def O7 (v:V):Bool:=v.cells.all W8
def ZG (x:D):Bool:=x.cells.all fun c=>W8 (.d c)
def EA:List V→Option (List D)
 |[]=>some []
 |v::vs=>match v,EA vs with | .d x,some xs=>some (x::xs)|_,_=>none
def bB:V→V
 | .fn _ (_::_)=> .top
 | .agg _=> .top
 | .tup _=> .top
 | .bp ..=> .top
 |v=>v
def T8 (cs:List V):V:=match EA cs with|some xs=> .d (.agg xs)|none=> .agg (cs.map bB)
def setAt {α:Type}:List α→Nat→List α→List α
 |xs,_,[]=>xs
 |xs,off,y::ys=>setAt (xs.set off y) (off+1) ys
def inner (h:Nat→Option Ob)(o i:Nat):Option (Nat×List D):=
 match h o with
 |some (.nst _ _ sz xs)=>some (sz,(xs[i]?.getD .top).l)
 |_=>none
def yR (h:Nat→Option Ob):V→Option (Nat×List D)
 | .d (.Z sz xs)=>some (sz,xs)
 | .d (.nils _ _)=>some (0,[])
 | .row o=>match h o with|some (.row _ sz xs _)=>some (sz,xs)|_=>none
 | .sub o z lo n=>match h o with|some (.row _ sz xs _)=>bif Nat.beq z sz then some (sz,(xs.drop lo).take n) else none|_=>none
 | .ir o i=>inner h o i
 |_=>none
def CM (h:Nat→Option Ob):V→Option (D×List Nat)
 | .d x=>some (x,[])
 | .row o=>match h o with|some (.row _ sz xs _)=>some (.Z sz xs,[o])|some (.nst _ _ _ xs)=>some (.Z 1 xs,[o])|_=>none
 | .ir o i=>match inner h o i with|some (sz,ys)=>some (.Z sz ys,[o])|none=>none
 | .sub o z lo n=>match h o with|some (.row _ sz xs _)=>bif Nat.beq z sz then some (.Z sz ((xs.drop lo).take n),[o]) else none|_=>none
 | .fn f []=>some (.fn f,[])
 |_=>none
def qR (h:Nat→Option Ob):List V→Option (List D×List Nat)
 |[]=>some ([],[])
 |v::vs=>match CM h v,qR h vs with|some (x,a),some (xs,b)=>some (x::xs,a++b)|_,_=>none
def Ee (h:Nat→Option Ob):V→Option (D×List Nat)
 | .agg cs=>match qR h cs with|some (xs,a)=>some (.agg xs,a)|none=>none
 |v=>CM h v
def yW:Y2→D→D
 | .Z sz,x=>(match x with | .nils _ _=> .Z sz []|y=>y)
 |_,x=>x
def oC:List Y2→List D→List D
 |t::ts,x::xs=>yW t x::oC ts xs
 |_,xs=>xs
def oD:Ty→D→D
 | .leaf t,x=>yW t x
 | .agg ts,x=>(match x with | .agg cs=> .agg (oC ts cs)|y=>y)
 | .ifc ..,x=>x
def Mj (ty:Ty)(h:Nat→Option Ob)(v:V):Option (D×List Nat):=match Ee h v with|some (x,a)=>some (oD ty x,a)|none=>none
def K8 (h:Nat→Option Ob):List Nat→Nat→Option Ob
 |[]=>h
 |o::os=>fun x=>bif Nat.beq x o then (match h o with|some (.row e sz xs _)=>some (.row e sz xs true)|some (.nst e _ _ xs)=>some (.row e 1 xs true)|ob=>ob) else K8 h os x
def St.freeze (st:St)(os:List Nat):St:={ st with h:=K8 st.h os }
def I4:List (Nat×Nat)→Nat→Option Nat
 |[],_=>none
 |(a,b)::r,x=>bif Nat.beq x a then some b else I4 r x
def VJ:List (Nat×Nat)→Nat→Bool
 |[],_=>false
 |(_,b)::r,x=>Nat.beq x b||VJ r x
def KX (ren:List (Nat×Nat))(l o:Nat):Option (List (Nat×Nat)):=
 match I4 ren l with
 |some o'=>bif Nat.beq o o' then some ren else none
 |none=>bif VJ ren o then none else some ((l,o)::ren)
structure Cf where
 ds:List D
 fz:List Nat
 ren:List (Nat×Nat)
def isRow (h:Nat→Option Ob)(o:Nat):Bool:=match h o with|some (.row _ _ _ fz)=>!fz|some (.nst ..)=>true|_=>false
def isVar (h:Nat→Option Ob)(o:Nat):Bool:=match h o with|some (.var _)=>true|some (.it ..)=>true|_=>false
def Qb (h:Nat→Option Ob)(o:Nat):Bool:=match h o with|some (.mp _ _)=>true|_=>false
def Y2.same:Y2→Y2→Bool
 | .any,.any=>true
 | .bool,.bool=>true
 | .int a,.int b=>decide (a=b)
 | .str,.str=>true
 | .Z a,.Z b=>Nat.beq a b
 |_,_=>false
def X0 (h:Nat→Option Ob)(c:Cf):SV→V→Option Cf
 | .d t,v=>match Ee h v with|some (x,a)=>some ⟨c.ds++[oD t x],c.fz++a,c.ren⟩|none=>none
 | .ptr l f,.ptr o f'=>bif Nat.beq f f'&&isVar h o then (match KX c.ren l o with|some r=>some ⟨c.ds,c.fz,r⟩|none=>none) else none
 | .row l,.row o=>bif isRow h o then (match KX c.ren l o with|some r=>some ⟨c.ds,c.fz,r⟩|none=>none) else none
 | .x,_=>some c
 | .mp l,.mp o=>bif Qb h o then (match KX c.ren l o with|some r=>some ⟨c.ds,c.fz,r⟩|none=>none) else none
 | .fn f [],.d (.fn f')=>bif Nat.beq f f' then some c else none
 | .fn f [],.fn f' []=>bif Nat.beq f f' then some c else none
 |_,_=>none
def V1 (h:Nat→Option Ob):Cf→List SV→List V→Option Cf
 |c,[],[]=>some c
 |c,s::ss,v::vs=>match X0 h c s v with|some c'=>V1 h c' ss vs|none=>none
 |_,_,_=>none
def tY (h:Nat→Option Ob)(c:Cf):SV→V→Option Cf
 | .fn f caps,.fn f' caps'=>bif Nat.beq f f' then V1 h c caps caps' else none
 | .bp t l f,.bp t' o f'=>bif Nat.beq t t'&&Nat.beq f f' then (match KX c.ren l o with|some r=>some ⟨c.ds,c.fz,r⟩|none=>none) else none
 | .agg ss,.agg cs=>V1 h c ss cs
 | .agg ss,.d (.agg cs)=>V1 h c ss (cs.map V.d)
 |s,v=>X0 h c s v
def gX (st:St):Cf→List (Nat×SV)→Option Cf
 |c,[]=>some c
 |c,(t,s)::r=>match tY st.h c s (st.t t) with|some c'=>gX st c' r|none=>none
def Y5 (h:Nat→Option Ob):Cf→List SV→List V→Option Cf
 |c,[],[]=>some c
 |c,s::ss,v::vs=>match tY h c s v with|some c'=>Y5 h c' ss vs|none=>none
 |_,_,_=>none
def W4 (h:Nat→Option Ob):Cf→Nat→List eQ→Option Cf
 |c,_,[]=>some c
 |c,l,.gone::r=>W4 h c (l+1) r
 |c,l,.var ss::r=>
  match I4 c.ren l with
  |some o=>match h o with
   |some (.var cs)=>match Y5 h c ss cs with|some c'=>W4 h c' (l+1) r|none=>none
   |_=>none
  |none=>none
 |c,l,.row e sz _::r=>
  match I4 c.ren l with
  |some o=>match h o with
   |some (.row e' sz' xs false)=>bif Nat.beq e e'&&Nat.beq sz sz' then W4 h ⟨c.ds++[.Z sz xs],c.fz,c.ren⟩ (l+1) r else none
   |_=>none
  |none=>none
 |c,l,.mp kt::r=>
  match I4 c.ren l with
  |some o=>match h o with
   |some (.mp kt' xs)=>bif Y2.same kt kt' then W4 h ⟨c.ds++[.Z 2 xs],c.fz,c.ren⟩ (l+1) r else none
   |_=>none
  |none=>none
 |c,l,.nst e ie sz _::r=>
  match I4 c.ren l with
  |some o=>match h o with
   |some (.nst e' ie' sz' xs)=>bif Nat.beq e e'&&Nat.beq ie ie'&&Nat.beq sz sz' then W4 h ⟨c.ds++[.Z 1 xs],c.fz,c.ren⟩ (l+1) r else none
   |_=>none
  |none=>none
 |c,l,.it t l'::r=>
  match I4 c.ren l with
  |some o=>match h o with
   |some (.it t' mo xs)=>bif Nat.beq t t' then (match KX c.ren l' mo with|some ren=>W4 h ⟨c.ds++[.Z 0 xs],c.fz,ren⟩ (l+1) r|none=>none) else none
   |_=>none
  |none=>none
def EB (ren:List (Nat×Nat)):List Nat→Bool
 |[]=>true
 |o::os=>!(VJ ren o)&&EB ren os
def PC (n:Nat):List (Nat×Nat)→Bool
 |[]=>true
 |(l,_)::r=>Nat.blt l n&&PC n r
def EK (sk:Sk)(pre:List (Nat×Nat))(st:St):Option Cf:=
 match gX st ⟨[],[],pre⟩ sk.slots with
 |some c=>match W4 st.h c 0 sk.objs with
  |some c'=>bif EB c'.ren c'.fz&&PC sk.objs.length c'.ren then some c' else none
  |none=>none
 |none=>none
def Y:List D→Nat→D
 |[],_=> .top
 |x::_,0=>x
 |_::r,n+1=>Y r n
def M3 (E:Ty→D→D)(ds:List D):SV→Nat→V×Nat
 | .d t,j=>(.d (E t (Y ds j)),j+1)
 | .ptr o f,j=>(.ptr o f,j)
 | .row o,j=>(.row o,j)
 | .fn f _,j=>(.d (.fn f),j)
 | .agg _,j=>(.top,j)
 | .x,j=>(.top,j)
 | .mp o,j=>(.mp o,j)
 | .bp ..,j=>(.top,j)
def J4 (E:Ty→D→D)(ds:List D):List SV→Nat→List V×Nat
 |[],j=>([],j)
 |s::ss,j=>match M3 E ds s j with|(v,j')=>match J4 E ds ss j' with|(vs,r)=>(v::vs,r)
def S7 (E:Ty→D→D)(ds:List D):SV→Nat→V×Nat
 | .fn f (c::caps),j=>match J4 E ds (c::caps) j with|(vs,r)=>(.fn f vs,r)
 | .agg ss,j=>match J4 E ds ss j with|(vs,r)=>(T8 vs,r)
 | .bp t o f,j=>(.bp t o f,j)
 |s,j=>M3 E ds s j
def K9 (E:Ty→D→D)(ds:List D):List SV→Nat→List V×Nat
 |[],j=>([],j)
 |s::ss,j=>match S7 E ds s j with|(v,j')=>match K9 E ds ss j' with|(vs,r)=>(v::vs,r)
def L1 (E:Ty→D→D)(ds:List D):List (Nat×SV)→Nat→(Nat→V)×Nat
 |[],j=>(fun _=> .top,j)
 |(t,s)::r,j=>match S7 E ds s j with|(v,j')=>match L1 E ds r j' with|(f,q)=>(fun x=>bif Nat.beq x t then v else f x,q)
def J3 (E:Ty→D→D)(ds:List D):List eQ→Nat→Nat→Nat→Option Ob
 |[],_,_=>fun _=>none
 | .gone::r,l,j=>J3 E ds r (l+1) j
 | .var ss::r,l,j=>match K9 E ds ss j with|(vs,j')=>fun x=>bif Nat.beq x l then some (.var vs) else J3 E ds r (l+1) j' x
 | .row e sz _::r,l,j=>fun y=>bif Nat.beq y l then some (.row e sz (Y ds j).l false) else J3 E ds r (l+1) (j+1) y
 | .mp kt::r,l,j=>fun y=>bif Nat.beq y l then some (.mp kt (Y ds j).l) else J3 E ds r (l+1) (j+1) y
 | .nst e ie sz _::r,l,j=>fun y=>bif Nat.beq y l then some (.nst e ie sz (Y ds j).l) else J3 E ds r (l+1) (j+1) y
 | .it t l'::r,l,j=>fun y=>bif Nat.beq y l then some (.it t l' (Y ds j).l) else J3 E ds r (l+1) (j+1) y
def J6 (E:Ty→D→D)(sk:Sk)(ds:List D):St:=
 match L1 E ds sk.slots 0 with
 |(t,j)=>⟨t,J3 E ds sk.objs 0 j,⟨sk.objs.length,[]⟩⟩
def O0 (sk:Sk)(ds:List D):St:=J6 L0 sk ds
def St.later (st:St)(df:List (Nat×List (Nat×Nat))):St:={ st with m:=⟨st.m.k,df⟩ }
def GS:List (Nat×Nat)→List (Nat×Nat)→Bool
 |[],[]=>true
 |(a,b)::r,(c,d)::q=>Nat.beq a c&&Nat.beq b d&&GS r q
 |_,_=>false
def zQ:List (Nat×List (Nat×Nat))→List (Nat×List (Nat×Nat))→Bool
 |[],[]=>true
 |(a,b)::r,(c,d)::q=>Nat.beq a c&&GS b d&&zQ r q
 |_,_=>false
def U3:SV→List D→Bool×List D
 | .d t,x::ds=>(eG t x,ds)
 | .d _,[]=>(false,[])
 |_,ds=>(true,ds)
def W3:List SV→List D→Bool×List D
 |[],ds=>(true,ds)
 |s::ss,ds=>match U3 s ds with|(b,ds')=>match W3 ss ds' with|(b',r)=>(b&&b',r)
def uZ:SV→List D→Bool×List D
 | .fn _ caps,ds=>W3 caps ds
 | .agg ss,ds=>W3 ss ds
 |s,ds=>U3 s ds
def aX:List SV→List D→Bool×List D
 |[],ds=>(true,ds)
 |s::ss,ds=>match uZ s ds with|(b,ds')=>match aX ss ds' with|(b',r)=>(b&&b',r)
def cY:List (Nat×SV)→List D→Bool×List D
 |[],ds=>(true,ds)
 |(_,s)::r,ds=>match uZ s ds with|(b,ds')=>match cY r ds' with|(b',q)=>(b&&b',q)
def P6:List eQ→List D→Bool
 |[],[]=>true
 |[],_::_=>false
 | .gone::r,ds=>P6 r ds
 | .var ss::r,ds=>match aX ss ds with|(b,ds')=>b&&P6 r ds'
 | .row _ sz _::r,x::ds=>M0 (.Z sz) x&&P6 r ds
 | .row ..::_,[]=>false
 | .mp _::r,x::ds=>M0 (.Z 2) x&&P6 r ds
 | .mp _::_,[]=>false
 | .nst ..::r,x::ds=>M0 (.Z 1) x&&P6 r ds
 | .nst ..::_,[]=>false
 | .it ..::r,x::ds=>M0 (.Z 0) x&&P6 r ds
 | .it ..::_,[]=>false
def aL (sk:Sk)(ds:List D):Bool:=match cY sk.slots ds with|(b,r)=>b&&P6 sk.objs r
def FJ:D→Y2
 | .bool _=> .bool
 | .int k _=> .int k
 | .str _=> .str
 | .Z sz _=> .Z sz
 | .nils (_+1) sz=> .Z sz
 |_=> .any
def aE5:D→Ty
 | .agg cs=> .agg (cs.map FJ)
 | .iface t (.agg cs)=> .ifc t (cs.map FJ)
 |x=> .leaf (FJ x)
def dV (xs:List Nat):List Nat→List Nat
 |[]=>xs
 |o::os=>dV (bif xs.any (Nat.beq o) then xs else xs++[o]) os
def iM (h:Nat→Option Ob):V→List Nat
 | .ptr o _=>[o]
 | .mp o=>[o]
 | .row o=>bif isRow h o then [o] else []
 |_=>[]
def pM (h:Nat→Option Ob):V→List Nat
 | .fn _ caps=>caps.flatMap (iM h)
 | .agg cs=>cs.flatMap (iM h)
 |v=>iM h v
def Ji (h:Nat→Option Ob)(o:Nat):List Nat:=match h o with|some (.var cs)=>cs.flatMap (pM h)|some (.it _ mo _)=>[mo]|_=>[]
def reach (h:Nat→Option Ob):Nat→List Nat→List Nat
 |0,os=>os
 |n+1,os=>reach h n (dV os (os.flatMap (Ji h)))
def idx:List Nat→Nat→Nat
 |[],_=>0
 |a::r,x=>bif Nat.beq x a then 0 else idx r x+1
def NO (h:Nat→Option Ob)(all:List Nat):V→SV
 | .d (.fn f)=> .fn f []
 | .d x=> .d (aE5 x)
 | .ptr o f=> .ptr (idx all o) f
 | .mp o=> .mp (idx all o)
 | .row o=>bif isRow h o&&all.any (Nat.beq o) then .row (idx all o) else (match h o with|some (.row _ sz _ _)=> .d (.leaf (.Z sz))|some (.nst ..)=> .d (.leaf (.Z 1))|_=> .x)
 | .ir o _=>match h o with|some (.nst _ _ sz _)=> .d (.leaf (.Z sz))|_=> .x
 | .sub o _ _ _=>match h o with|some (.row _ sz _ _)=> .d (.leaf (.Z sz))|_=> .x
 | .fn f []=> .fn f []
 |_=> .x
def Bj (h:Nat→Option Ob):V→Y2
 | .d x=>FJ x
 | .row o=>(match h o with|some (.row _ sz _ _)=> .Z sz|_=> .any)
 | .sub o _ _ _=>(match h o with|some (.row _ sz _ _)=> .Z sz|_=> .any)
 |_=> .any
def Tg (h:Nat→Option Ob)(all:List Nat):V→SV
 | .fn f caps=> .fn f (caps.map (NO h all))
 | .agg cs=>bif (cs.flatMap (iM h)).any (fun o=>all.any (Nat.beq o)) then .agg (cs.map (NO h all)) else .d (.agg (cs.map (Bj h)))
 | .bp t o f=> .bp t (idx all o) f
 |v=>NO h all v
def Gn (h:Nat→Option Ob)(all:List Nat)(mode:Nat→Nat)(o:Nat):eQ:=
 match h o with
 |some (.var cs)=> .var (cs.map (Tg h all))
 |some (.row e sz _ _)=> .row e sz (mode o)
 |some (.mp kt _)=> .mp kt
 |some (.it t mo _)=> .it t (idx all mo)
 |some (.nst e ie sz _)=> .nst e ie sz (mode o)
 |none=> .gone
def lL (h:Nat→Option Ob)(own:Nat→Nat):Nat→List V→List Nat
 |_,[]=>[]
 |i,.row o::r=>bif Nat.beq (own i) 0 then lL h own (i+1) r else dV (iM h (.row o)) (lL h own (i+1) r)
 |i,.agg cs::r=>bif Nat.beq (own i) 0 then lL h own (i+1) r else dV (cs.flatMap (iM h)) (lL h own (i+1) r)
 |i,v::r=>pM h v++lL h own (i+1) r
def WK (h:Nat→Option Ob)(own:Nat→Nat):Nat→List V→Nat→Nat
 |_,[],_=>0
 |i,v::r,x=>bif !(Nat.beq (own i) 0)&&(match v with | .row o=>Nat.beq x o | .agg cs=>(cs.flatMap (iM h)).any (Nat.beq x)|_=>false)
   then (bif Nat.beq (own i) 1 then 2 else 1) else WK h own (i+1) r x
def vX (h:Nat→Option Ob)(all:List Nat):Nat→List V→List (Nat×SV)
 |_,[]=>[]
 |i,v::r=>(i,Tg h all v)::vX h all (i+1) r
def UY (h:Nat→Option Ob)(mode:Nat→Nat):List Nat→List Nat×List Nat
 |[]=>([],[])
 |o::os=>match UY h mode os with|(a,b)=>bif isVar h o||Qb h o||Nat.beq (mode o) 1 then (o::a,b) else (a,o::b)
def xE (cm:Nat→Nat):Nat→List V→List V
 |_,[]=>[]
 |k,.row o::r=>(bif Nat.beq (cm k) 2 then .d .top else .row o)::xE cm (k+1) r
 |k,v::r=>v::xE cm (k+1) r
def Vn (cm:Nat→Nat→Nat)(h:Nat→Option Ob):Nat→Option Ob:=fun o=>match h o with
 |some (.var cs)=>some (.var (xE (cm cs.length) 0 cs))
 |ob=>ob
def MD (cm:Nat→Nat)(x:Nat):Nat→List V→Bool
 |_,[]=>false
 |k,.row o::r=>(Nat.beq (cm k) 1&&Nat.beq x o)||MD cm x (k+1) r
 |k,_::r=>MD cm x (k+1) r
def Bm (cm:Nat→Nat→Nat)(h:Nat→Option Ob)(x:Nat)(all:List Nat):Bool:=all.any fun o=>match h o with|some (.var cs)=>MD (cm cs.length) x 0 cs|_=>false
def Ma (cm:Nat→Nat→Nat)(h:Nat→Option Ob)(all:List Nat)(mode:Nat→Nat)(o:Nat):eQ:=
 match h o with
 |some (.var cs)=> .var (cutSV (cm cs.length) h all 0 cs)
 |_=>Gn h all mode o
where cutSV (cm:Nat→Nat) (h:Nat→Option Ob) (all:List Nat):Nat→List V→List SV
 |_,[]=>[]
 |k,.row o::r=>(bif Nat.beq (cm k) 2 then (match h o with|some (.row _ sz _ _)=> .d (.leaf (.Z sz))|some (.nst ..)=> .d (.leaf (.Z 1))|_=> .x) else Tg h all (.row o))::cutSV cm h all (k+1) r
 |k,v::r=>Tg h all v::cutSV cm h all (k+1) r
def rQ (dep:Nat)(h:Nat→Option Ob)(own:Nat→Nat)(cm:Nat→Nat→Nat)(args:List V):Sk:=
 let re:=reach (Vn cm h) dep (dV [] (lL h own 0 args))
 let mode:=fun x=>bif Bm cm h x re then 1 else WK h own 0 args x
 match UY h mode re with
 |(a,b)=>⟨vX h (a++b) 0 args,(a++b).map (Ma cm h (a++b) mode)⟩
def WC (dep:Nat)(st:St)(pre:List Nat)(keep:List Nat):Sk:=
 let ks:=keep.filter fun t=>match st.t t with | .d .top=>false | .el ..=>false | .rp ..=>false | .ir ..=>false | .irp ..=>false | .tup _=>false|_=>true
 let all:=reach st.h dep (dV pre (ks.flatMap fun t=>pM st.h (st.t t)))
 ⟨ks.map fun t=>(t,Tg st.h all (st.t t)),all.map (Gn st.h all fun _=>0)⟩
def H5 (sel:Nat→Bool):List V→Nat→List V×List (Nat×Ob)×Nat
 |[],m=>([],[],m)
 | .d (.nils (e+1) (sz+1))::r,m=>bif sel (e+1) then (match H5 sel r (m+1) with|(vs,os,q)=>(.row m::vs,(m,.row (e+1) (sz+1) [] false)::os,q))
   else (match H5 sel r m with|(vs,os,q)=>(.d (.nils (e+1) (sz+1))::vs,os,q))
 |v::r,m=>match H5 sel r m with|(vs,os,q)=>(v::vs,os,q)
def Y0 (h:Nat→Option Ob):List (Nat×Ob)→Nat→Option Ob
 |[]=>h
 |(o,ob)::r=>fun x=>bif Nat.beq x o then some ob else Y0 h r x
def P4:List Nat→St→St
 |[],st=>st
 |o::os,st=>match st.h o with
  |some (.var (c::cs))=>(match H5 (fun _=>true) (c::cs) st.n with
   |(vs,new,m)=>P4 os { st with h:=Y0 (fun x=>bif Nat.beq x o then some (.var vs) else st.h x) new,m:=⟨m,st.m.df⟩ })
  |_=>P4 os st
def QQ (dep:Nat)(st:St)(pre:List Nat)(keep:List Nat):St:=
 P4 (reach st.h dep (dV pre (keep.flatMap fun t=>pM st.h (st.t t)))) st
def fN:List eQ→List eQ
 |[]=>[]
 | .row e sz m::r=>(bif Nat.beq m 2 then .gone else .row e sz m)::fN r
 | .nst e ie sz m::r=>(bif Nat.beq m 2 then .gone else .nst e ie sz m)::fN r
 |s::r=>s::fN r
def L2:Nat→List eQ→List (Nat×Nat)
 |_,[]=>[]
 |l,.var _::r=>(l,l)::L2 (l+1) r
 |l,.mp _::r=>(l,l)::L2 (l+1) r
 |l,.it ..::r=>(l,l)::L2 (l+1) r
 |l,.row _ _ m::r=>bif Nat.beq m 1 then (l,l)::L2 (l+1) r else L2 (l+1) r
 |l,.nst _ _ _ m::r=>bif Nat.beq m 1 then (l,l)::L2 (l+1) r else L2 (l+1) r
 |l,.gone::r=>L2 (l+1) r
def DX (P:Program):Nat→List TypeId→List SV×List eQ
 |_,[]=>([],[])
 |l,t::ts=>
  match O6 P t with
  |some e=>match DX P (l+1) ts with|(a,b)=>(.row l::a,.row e (K2 P e) 0::b)
  |none=>match DX P l ts with|(a,b)=>(.d (.leaf (Q0 P t))::a,b)
def Bq (P:Program)(t:TypeId):Option (TypeId×TypeId):=match O6 P t with|some e=>(match O6 P e with|some ie=>some (e,ie)|none=>none)|none=>none
def oG (P:Program)(dres:Nat→Nat):Nat→Nat→List TypeId→List (Nat×SV)×List eQ
 |_,_,[]=>([],[])
 |i,l,t::ts=>
  match (bif Nat.beq (dres i) 3 then Bq P t else none) with
  |some (e,ie)=>(match oG P dres (i+1) (l+1) ts with|(a,b)=>((i,.row l)::a,.nst e ie (K2 P ie) 0::b))
  |none=>
  bif Nat.beq (dres i) 2 then
   (match DX P l (vO P 8 t) with
   |(cs,os)=>match oG P dres (i+1) (l+os.length) ts with|(a,b)=>((i,.agg cs)::a,os++b))
  else
  match (match O6 P t with|some e=>bif Nat.beq (dres i) 1 then none else some e|none=>none) with
  |some e=>match oG P dres (i+1) (l+1) ts with|(a,b)=>((i,.row l)::a,.row e (K2 P e) 0::b)
  |none=>match oG P dres (i+1) l ts with|(a,b)=>((i,.d (kA P t))::a,b)
def V5 (P:Program)(dres:DR)(ts:List TypeId)(sk:Sk):Sk:=
 match dres.o sk.objs.length with
 |some (a,b)=>⟨a,fN sk.objs++b⟩
 |none=>
 match oG P dres.m 0 sk.objs.length ts with
 |(a,b)=>⟨a,fN sk.objs++b⟩
def R2 (P:Program)(st:St):List ResultVar→List V
 |[]=>[]
 | .tmp t::r=>st.t t::R2 P st r
 | .cell a t::r=>
  (match st.t a with
   | .ptr o off=>match st.h o with
    |some (.var cs)=>bif J5 P t then T8 ((cs.drop off).take (K2 P t)) else (cs[off]?).getD .top
    |_=> .top
   |_=> .top)::R2 P st r
def AW:List V→Nat→V
 |[],_=> .top
 |v::r,x=>bif Nat.beq x 0 then v else AW r (x-1)
def iG (P:Program)(st:St):List ResultVar→Bool
 |[]=>true
 | .tmp _::r=>iG P st r
 | .cell a t::r=>
  (match st.t a with
   | .ptr o off=>match st.h o with
    |some (.var cs)=>jZ P t&&(bif J5 P t then Nat.ble (off+K2 P t) cs.length else Nat.blt off cs.length)
    |_=>false
   |_=>false)&&iG P st r
def EM:Nat→List (Nat×SV)→Bool
 |_,[]=>true
 |i,(j,_)::r=>Nat.beq i j&&EM (i+1) r
def finish (P:Program)(rs:List ResultVar)(osk:Sk)(pre:List (Nat×Nat))(st:St):Out:=
 bif iG P st rs&&EM 0 osk.slots&&Nat.beq osk.slots.length rs.length then
 (match EK osk pre ⟨AW (R2 P st rs),st.h,st.m⟩ with
 |some c=>some (true,c.ds)
 |none=>none) else none
def jH (f:Nat→Nat):V→V
 | .ptr o off=> .ptr (f o) off
 | .row o=> .row (f o)
 | .mp o=> .mp (f o)
 |v=>v
def GN (f:Nat→Nat):V→V
 | .fn g caps=> .fn g (caps.map (jH f))
 | .agg cs=> .agg (cs.map (jH f))
 | .bp t o off=> .bp t (f o) off
 |v=>jH f v
def jT (f:Nat→Nat):Ob→Ob
 | .var cs=> .var (cs.map (GN f))
 | .it t mo xs=> .it t (f mo) xs
 |ob=>ob
def mU (ren pre:List (Nat×Nat))(nid:Nat)(l:Nat):Nat:=
 match I4 pre l with
 |some _=>(I4 ren l).getD 0
 |none=>nid+l
def aY (sk:Sk)(ren pre:List (Nat×Nat))(h:Nat→Option Ob):Nat→List eQ→Nat→Option Ob
 |_,[]=>h
 |l,.nst ..::r=>fun x=>bif (match I4 pre l with|some _=>false|none=>(match I4 ren l with|some o=>Nat.beq x o|none=>false)) then none else aY sk ren pre h (l+1) r x
 |l,.row ..::r=>fun x=>bif (match I4 pre l with|some _=>false|none=>(match I4 ren l with|some o=>Nat.beq x o|none=>false)) then none else aY sk ren pre h (l+1) r x
 |l,_::r=>aY sk ren pre h (l+1) r
def bG (f:Nat→Nat)(h' h:Nat→Option Ob):Nat→List eQ→Nat→Option Ob
 |_,[]=>h
 |l,.gone::r=>bG f h' h (l+1) r
 |l,_::r=>fun x=>bif Nat.beq x (f l) then (match h' l with|some ob=>some (jT f ob)|none=>none) else bG f h' h (l+1) r x
def cO (f:Nat→Nat)(t:Nat→V):List (Nat×SV)→List V
 |[]=>[]
 |(i,_)::r=>GN f (t i)::cO f t r
def FU:List V→V
 |[v]=>v
 |vs=> .tup vs
def merge (sk osk:Sk)(ren pre:List (Nat×Nat))(nid:Nat)(st:St)(ds:List D):V×St:=
 let f:=mU ren pre nid
 match O0 osk ds with
 |⟨t,h',_⟩=>(FU (cO f t osk.slots),{ st with h:=bG f h' (aY sk ren pre st.h 0 sk.objs) 0 osk.objs })
def iB:Y2→Bool
 | .bool=>true
 | .int _=>true
 | .str=>true
 |_=>false
def vS:Ty→Bool
 | .leaf t=>iB t
 | .agg ts=>ts.all iB
 | .ifc ..=>false
def zG:D→Bool
 | .bool _=>true
 | .int _ _=>true
 | .str _=>true
 | .agg cs=>cs.all fun | .bool _=>true | .int _ _=>true | .str _=>true|_=>false
 |_=>false
def kY:SV→Bool
 | .d t=>vS t
 | .fn _ []=>true
 | .agg _=>false
 | .fn _ _=>false
 |_=>true
def mG:SV→Bool
 | .agg ss=>ss.all kY
 | .fn _ ss=>ss.all kY
 |s=>kY s
def mH (P:Program)(sk:Sk):Bool:=
 sk.slots.all (fun p=>mG p.2)&&sk.objs.all fun | .var ss=>ss.all mG | .row e _ _=>vS (kA P e) | .gone=>true | .mp _=>false | .it ..=>false | .nst ..=>false
def U5 (_sk:Sk)(ds:List D):Bool:=ds.all fun | .Z _ xs=>xs.all zG|_=>true
def bT {R:Type}(r:Out)(k:List D→Option R):Option R:=match r with|some (true,ds)=>k ds|_=>none
def cX (r:Out)(k:List D→Out):Out:=match r with|some (true,ds)=>some (true,ds)|some (false,ds)=>k ds|none=>none
def M1 (P:Program)(own:Nat→Nat)(nid:Nat):Nat→List TypeId→List V→(Nat→Option Ob)→List V×(Nat→Option Ob)
 |i,t::ts,.d (.nils a b)::r,h=>
  match O6 P t with
  |some e=>bif Nat.beq (own i) 0 then (match M1 P own nid (i+1) ts r h with|(vs,h')=>(.d (.Z (K2 P e) [])::vs,h'))
    else bif Nat.blt 0 (K2 P e) then (match M1 P own nid (i+1) ts r (fun x=>bif Nat.beq x (nid+24+i) then some (.row e (K2 P e) [] false) else h x) with|(vs,h')=>(.row (nid+24+i)::vs,h'))
    else (match M1 P own nid (i+1) ts r h with|(vs,h')=>(.d (.nils a b)::vs,h'))
  |none=>match M1 P own nid (i+1) ts r h with|(vs,h')=>(.d (.nils a b)::vs,h')
 |i,_::ts,v::r,h=>match M1 P own nid (i+1) ts r h with|(vs,h')=>(v::vs,h')
 |_,[],r,h=>(r,h)
 |_,_,[],h=>([],h)
def eZ {R:Type}(c:Z6)(rec:Task→Out)(no:Bool)(f:Nat)(args0:List V)(nid:Nat)(st0:St)(K:V→St→Option R):Option R:=
 match c.P.funcs[f]? with
 |none=>none
 |some fn=>
  bif !(fn.body.isSome&&Nat.ble fn.params.size 8) then none else
  match M1 c.P (c.own f) nid 0 fn.params.toList args0 st0.h with
  |(args,h0)=>
  let st:St:={ st0 with h:=h0 }
  let sk:=rQ c.dep st.h (c.own f) (c.cm f) args
  match EK sk [] ⟨AW args,st.h,st.m⟩ with
  |none=>none
  |some cf=>
   bif no&&(c.orc f sk cf.ds).isSome then none else
   bT (rec (.call f sk cf.ds)) fun ds=>
    let osk:=V5 c.P (c.dres f) fn.resultTypes.toList sk
    bif !(Nat.ble osk.objs.length 24) then none else
    bif cf.fz.isEmpty then
     (bif aL osk ds then (match merge sk osk cf.ren (L2 0 sk.objs) nid st ds with|(v,st')=>K v st') else none)
    else bif mH c.P osk then
     (bif aL osk ds&&U5 osk ds then (match merge sk osk cf.ren (L2 0 sk.objs) nid st ds with|(v,st')=>K v st') else none)
    else
     (bif aL osk ds then (match merge sk osk cf.ren (L2 0 sk.objs) nid (st.freeze cf.fz) ds with|(v,st')=>K v st') else none)
def fA:D→D→Bool
 | .int _ a,.int _ b=>a==b
 | .str a,.str b=>a==b
 | .bool a,.bool b=>a==b
 |_,_=>false
def M5:List D→List D→Bool
 |a::zs,b::bs=>fA a b&&M5 zs bs
 |_,_=>true
def sL:Nat:=4611686018427387904
def uC {R:Type}(op:BinOp)(k:IntKind)(a b:Int)(K:D→Option R):Option R:=
 match op with
 | .add=>K (.int k (k.wrap (a+b)))
 | .sub=>K (.int k (k.wrap (a-b)))
 | .mul=>K (.int k (k.wrap (a*b)))
 | .quo=>bif decide (b=0) then none else K (.int k (k.wrap (a.tdiv b)))
 | .rem=>bif decide (b=0) then none else K (.int k (a.tmod b))
 | .and=>K (.int k (k.wrap (BitVec.ofInt k.bits a &&& BitVec.ofInt k.bits b).toNat))
 | .or=>K (.int k (k.wrap (BitVec.ofInt k.bits a ||| BitVec.ofInt k.bits b).toNat))
 | .xor=>K (.int k (k.wrap (BitVec.ofInt k.bits a ^^^ BitVec.ofInt k.bits b).toNat))
 | .andNot=>K (.int k (k.wrap (BitVec.ofInt k.bits a &&& ~~~BitVec.ofInt k.bits b).toNat))
 | .eql=>K (.bool (a==b))
 | .neq=>K (.bool (a !=b))
 | .lss=>K (.bool (decide (a<b)))
 | .leq=>K (.bool (decide (a≤b)))
 | .gtr=>K (.bool (decide (a>b)))
 | .geq=>K (.bool (decide (a≥b)))
 |_=>none
def uS {R:Type}(op:BinOp)(a b:G0)(K:D→Option R):Option R:=
 match op with
 | .add=>bif decide (a.length+b.length≤sL) then K (.str (a++b)) else none
 | .eql=>K (.bool (a==b))
 | .neq=>K (.bool (!(a==b)))
 | .lss=>K (.bool (Op.bytesLess a b))
 | .leq=>K (.bool (Op.bytesLess a b||a==b))
 | .gtr=>K (.bool (!(Op.bytesLess a b||a==b)))
 | .geq=>K (.bool (!(Op.bytesLess a b)))
 |_=>none
def xM (rY:TypeId→Option (List Y2))(P:Program):Nat→List Field→Option (List Y2)
 |_,[]=>some []
 |off,f::fs=>
  match rY f.type with
  |some ts=>bif decide (f.name≠"_")&&Nat.beq f.offset off&&Nat.beq (K2 P f.type) ts.length&&jZ P f.type then
    (match xM rY P (off+ts.length) fs with|some r=>some (ts++r)|none=>none) else none
  |none=>none
def rY (P:Program):Nat→TypeId→Option (List Y2)
 |0,_=>none
 |n+1,t=>
  match P.underlying t with
  |some .bool=>some [.bool]
  |some (.int k)=>some [.int k]
  |some .string=>some [.str]
  |some (.struct fs)=>bif P.stoodInHeld t then none else xM (rY P n) P 0 fs.toList
  |_=>none
def gL {R:Type}(P:Program)(op:BinOp)(t:TypeId)(x y:D)(K:D→Option R):Option R:=
 match x,y with
 | .int k a,.int k' b=>
  match op with
  | .shl=>bif decide (b<0) then none else K (.int k (k.wrap (a*2 ^ (min b.toNat k.bits))))
  | .shr=>bif decide (b<0) then none else K (.int k (a.fdiv (2 ^ (min b.toNat k.bits))))
  |op=>bif decide (k=k') then uC op k a b K else none
 | .str a,.str b=>uS op a b K
 | .bool a,.bool b=>
  match P.underlying t with
  |some .bool=>(match op with
   | .eql=>K (.bool (a==b))
   | .neq=>K (.bool (!(a==b)))
   |_=>none)
  |_=>none
 | .agg zs,.agg bs=>
  bif J5 P t&&!(P.eqGuardType P.depth t)&&(match rY P 8 t with|some ts=>K1 ts zs&&K1 ts bs|none=>false) then
   (match op with
   | .eql=>K (.bool (M5 zs bs))
   | .neq=>K (.bool (!(M5 zs bs)))
   |_=>none)
  else none
 | .Z _ xs,.nils _ _=>
  bif M6 P t then
   (match op with
   | .eql=>bif xs.isEmpty then K .ub else K (.bool false)
   | .neq=>bif xs.isEmpty then K .ub else K (.bool true)
   |_=>none)
  else none
 | .nils _ _,.nils _ _=>
  bif M6 P t then
   (match op with
   | .eql=>K (.bool true)
   | .neq=>K (.bool false)
   |_=>none)
  else none
 |_,_=>none
def Im:D→D→Bool
 | .Z _ _,.nils _ _=>true
 |_,_=>false
def RZ {R:Type}(P:Program)(n:Bool)(op:BinOp)(t:TypeId)(x y:D)(K:D→Option R):Option R:=
 bif n&&M6 P t&&Im x y then bif x.l.isEmpty then none else (match op with
   | .eql=>K (.bool false)
   | .neq=>K (.bool true)
   |_=>none)
 else gL P op t x y K
def uV {R:Type}(op:UnOp)(x:D)(K:D→Option R):Option R:=
 match op,x with
 | .neg,.int k n=>K (.int k (k.wrap (0-n)))
 | .xor,.int k n=>K (.int k (k.wrap (BitVec.ofInt k.bits (if k.signed then -1 else k.max) ^^^ BitVec.ofInt k.bits n).toNat))
 | .not,.bool b=>K (.bool (!b))
 |_,_=>none
def toByte:D→UInt8
 | .int _ n=>UInt8.ofNat n.toNat
 |_=>0
def eV:List D→Bool
 |[]=>true
 | .int .u8 _::r=>eV r
 |_=>false
def M4:Nat:=68719476736
def I1 (st:St):Operand→V
 | .tmp t=>st.t t
 | .const v=> .d (EN v)
 | .func f=> .d (.fn f)
 | .global _=> .top
def force {R:Type}(v:V)(K:V→Option R):Option R:=
 match v with
 | .d x=>K (.d x)
 | .ptr o f=>K (.ptr o f)
 | .el sz xs i f=>K (.el sz xs i f)
 | .rp o sz i f=>K (.rp o sz i f)
 | .row o=>K (.row o)
 | .sub o sz lo n=>K (.sub o sz lo n)
 | .agg cs=>K (.agg cs)
 | .fn f caps=>K (.fn f caps)
 | .tup vs=>K (.tup vs)
 | .mp o=>K (.mp o)
 | .bp t o f=>K (.bp t o f)
 | .ir o i=>K (.ir o i)
 | .irp o i sz j=>K (.irp o i sz j)
def newRow (st:St)(o e sz:Nat)(xs:List D):St:=st.M7 o (some (.row e sz xs false))
def newVar (st:St)(o:Nat)(cs:List V):St:=st.M7 o (some (.var cs))
def V9:Ty→Bool
 | .leaf .any=>false
 | .ifc ..=>false
 |_=>true
def typed {R:Type}(ty:Ty)(x:D)(K:D→Option R):Option R:=bif V9 ty&&eG ty x then K (L0 ty x) else none
def GX (x:D)(off n:Nat)(agg:Bool):D:=bif agg then .agg ((x.cells.drop off).take n) else x.at_ off
def jW:D→Bool
 | .agg _=>true
 |_=>false
def KI (x:D)(off:Nat)(y:D):D:= .agg (setAt x.cells off y.cells)
def O9:D→Bool
 | .nils _ _=>true
 |_=>false
def MJ {R:Type}(P:Program)(t:TypeId)(x:D)(k:D→Option R)(l:Option R):Option R:=match O6 P t with|some e=>bif O9 x then k (.nils e (K2 P e)) else l|none=>l
def mX {R:Type}(P:Program)(t:TypeId)(p:V)(st:St)(K:V→St→Option R):Option R:=
 let n:=K2 P t
 let g:=J5 P t
 bif !(jZ P t) then none else
 match p with
 | .ptr o off=>
  match st.h o with
  |some (.var cs)=>bif g then (bif Nat.ble (off+n) cs.length then K (T8 ((cs.drop off).take n)) st else none) else (match cs[off]? with|some v=>force v fun v=>K v st|none=>none)
  |_=>none
 | .el sz xs i off=>bif Nat.beq off 0&&Nat.beq n sz then MJ P t (xs[i]?.getD .top) (fun x=>K (.d x) st) (typed (kA P t) (xs[i]?.getD .top) fun x=>K (.d x) st)
   else bif Nat.ble (off+n) sz then (bif jW (xs[i]?.getD .top) then typed (kA P t) (GX (xs[i]?.getD .top) off n g) fun x=>K (.d x) st else none) else none
 | .rp o sz i off=>
  match st.h o with
  |some (.row _ sz' xs _)=>bif Nat.beq sz sz' then
    (bif Nat.beq off 0&&Nat.beq n sz then MJ P t (xs[i]?.getD .top) (fun x=>K (.d x) st) (typed (kA P t) (xs[i]?.getD .top) fun x=>K (.d x) st)
    else bif Nat.ble (off+n) sz then (bif jW (xs[i]?.getD .top) then typed (kA P t) (GX (xs[i]?.getD .top) off n g) fun x=>K (.d x) st else none) else none) else none
  |some (.nst _ ie sz' xs)=>bif Nat.beq sz 1&&Nat.beq off 0&&Nat.beq n 1&&!g then
    (bif O9 (xs[i]?.getD .top) then K (.d (.nils ie sz')) st else K (.ir o i) st) else none
  |_=>none
 | .irp o i sz j=>
  match inner st.h o i with
  |some (sz',ys)=>bif Nat.beq sz sz'&&Nat.beq n sz then typed (kA P t) (ys[j]?.getD .top) fun x=>K (.d x) st else none
  |none=>none
 |_=>none
def oH {R:Type}(P:Program)(t:TypeId)(o:Nat)(v:V)(st:St)(K:V→St→Option R):Option R:=
 match v with
 | .d (.nils _ _)=>match O6 P t with
  |some e=>bif Nat.blt 0 (K2 P e) then K (.row o) (newRow st o e (K2 P e) []) else none
  |none=>none
 |v=>K v st
def Y1 (P:Program)(t:TypeId):V→V
 | .d (.nils a b)=>(match O6 P t with|some e=> .d (.nils e (K2 P e))|none=> .d (.nils a b))
 |v=>v
def tK {R:Type}(P:Program)(ow:Bool)(t:TypeId)(p v:V)(nid:Nat)(st:St)(K:V→St→Option R):Option R:=
 bif !(jZ P t) then none else
 match p with
 | .ptr o off=>
  match st.h o with
  |some (.var cs)=>
   bif J5 P t then
    (bif O7 v&&Nat.beq v.cells.length (K2 P t)&&Nat.ble (off+v.cells.length) cs.length then K .top (st.M7 o (some (.var (setAt cs off v.cells)))) else none)
   else
    bif W8 v&&Nat.beq (K2 P t) 1&&Nat.blt off cs.length then
     (bif Nat.beq cs.length 1||ow then oH P t nid v st fun v st=>K .top (st.M7 o (some (.var (setAt cs off [v])))) else K .top (st.M7 o (some (.var (setAt cs off [Y1 P t v])))))
    else none
  |_=>none
 | .rp o sz i off=>
  match st.h o with
  |some (.row e sz' xs false)=>
   bif Nat.beq sz sz' then
   (match Mj (kA P t) st.h v with
   |some (x,fz)=>
    bif !(ZG x&&Nat.beq x.cells.length (K2 P t)&&!(fz.any (Nat.beq o))) then none else
    bif Nat.beq off 0&&Nat.beq (K2 P t) sz then K .top ((st.freeze fz).M7 o (some (.row e sz (xs.set i x) false)))
    else bif Nat.ble (off+K2 P t) sz then
     (bif eG (kA P e) (xs[i]?.getD .top)&&J5 P e&&Nat.beq (K2 P e) sz then K .top ((st.freeze fz).M7 o (some (.row e sz (xs.set i (KI (xs[i]?.getD .top) off x)) false))) else none)
    else none
   |none=>none) else none
  |some (.nst e ie sz' xs)=>
   bif Nat.beq sz 1&&Nat.beq off 0&&Nat.beq (K2 P t) 1&&Nat.blt i xs.length&&O9 (xs[i]?.getD .top) then
    (match v with
    | .row o'=>(match st.h o' with
     |some (.row e' sz'' ys false)=>bif !(Nat.beq o o')&&Nat.beq e' ie&&Nat.beq sz'' sz'&&!(ys.isEmpty) then
       K .top ((st.M7 o' none).M7 o (some (.nst e ie sz' (xs.set i (.Z sz' ys))))) else none
     |_=>none)
    | .d (.nils _ _)=>K .top st
    |_=>none) else none
  |_=>none
 | .irp o i sz j=>
  (match st.h o with
  |some (.nst e ie sz' xs)=>(match inner st.h o i,Mj (kA P t) st.h v with
   |some (_,ys),some (x,[])=>bif Nat.beq sz sz'&&ZG x&&Nat.beq x.cells.length (K2 P t)&&Nat.beq (K2 P t) sz&&Nat.blt j ys.length then
     K .top (st.M7 o (some (.nst e ie sz' (xs.set i (.Z sz' (ys.set j x)))))) else none
   |_,_=>none)
  |_=>none)
 |_=>none
def bZ (P:Program)(t:TypeId)(ev:Operand→V):List V→List (Nat×Operand)→Option (List V)
 |cs,[]=>some cs
 |cs,(k,x)::r=>
  match nU P t k with
  |some (off,ft)=>bif O7 (ev x)&&Nat.beq (ev x).cells.length (K2 P ft)&&Nat.ble (off+K2 P ft) cs.length then bZ P t ev (setAt cs off (ev x).cells) r else none
  |none=>none
def uY (P:Program)(t:TypeId):Option D:=match AI P t with|some z=>some (oD (kA P t) z)|none=>none
def iF (ty:Ty)(h:Nat→Option Ob)(ev:Operand→V)(sz:Nat):List D→List (Nat×Operand)→Option (List D×List Nat)
 |xs,[]=>some (xs,[])
 |xs,(k,x)::r=>match Mj ty h (ev x) with
  |some (d,a)=>bif Nat.blt k xs.length&&ZG d&&Nat.beq d.cells.length sz then
    (match iF ty h ev sz (xs.set k d) r with|some (ys,b)=>some (ys,a++b)|none=>none) else none
  |none=>none
def xP (P:Program)(t:TypeId):Bool:=match P.underlying t with|some (.struct fs)=>fs.toList.all fun f=>(P.info? f.type).isSome|_=>false
def lM (P:Program)(e:TypeId):Bool:=match P.info? e with|some i=>Nat.ble i.bytes 2048&&Nat.blt 0 i.size&&(match i.zero with|some z=>Nat.beq z.cells.size i.size|none=>false)|none=>false
def lK {R:Type}(P:Program)(t:TypeId)(s x:V)(nid:Nat)(st:St)(K:V→St→Option R):Option R:=
 match O6 P t with
 |none=>none
 |some e=>
  let sz:=K2 P e
  match yR st.h x with
  |none=>none
  |some (sz',ys)=>
   bif lM P e&&(Nat.beq sz sz'||ys.isEmpty) then
    (match s with
    | .d (.nils _ _)=>bif Nat.ble ys.length M4 then K (.row nid) (newRow st nid e sz ys) else none
    | .row o=>
     match st.h o with
     |some (.row e' sz'' xs false)=>bif Nat.beq e e'&&Nat.beq sz sz'' then
       (bif Nat.ble (xs.length+ys.length) M4 then K (.row nid) (newRow (st.M7 o none) nid e sz (xs++ys)) else none) else none
     |_=>none
    |_=>none)
   else none
def wV (P:Program)(e:TypeId):Bool:=match P.info? e with|some i=>Nat.beq i.size 1&&Nat.beq i.bytes 1&&(match i.zero with|some (.int .u8 n)=>n==0|_=>false)|none=>false
def gU {R:Type}(P:Program)(t:TypeId)(s:V)(x:G0)(nid:Nat)(st:St)(K:V→St→Option R):Option R:=
 match O6 P t,s with
 |some e,.row o=>(match st.h o with
  |some (.row e' sz xs false)=>bif Nat.beq e e'&&Nat.beq sz 1&&Nat.beq (K2 P e) 1&&Nat.ble (xs.length+x.length) M4&&wV P e then
    K (.row nid) (newRow (st.M7 o none) nid e 1 (xs++x.map fun b=> .int .u8 (b.toNat:Int))) else none
  |_=>none)
 |_,_=>none
def VP (P:Program)(e:TypeId):Bool:=match P.info? e with|some i=>(match i.zero with|some (.slice none 0 0)=>true|_=>false)|none=>false
def nZ {R:Type}(P:Program)(t:TypeId)(l c:V)(nid:Nat)(st:St)(K:V→St→Option R):Option R:=
 match Bq P t,l,c with
 |some (e,ie),.d (.int .i64 n),.d (.int .i64 m)=>
  bif lM P e&&VP P e&&Nat.beq (K2 P e) 1&&jZ P ie&&Nat.blt 0 (K2 P ie) then
   (bif decide (0≤n)&&decide (n≤m)&&decide (m≤M4) then K (.row nid) (st.M7 nid (some (.nst e ie (K2 P ie) (List.replicate n.toNat (.nils ie (K2 P ie)))))) else none) else none
 |_,_,_=>none
def yS {R:Type}(P:Program)(t:TypeId)(l c:V)(nid:Nat)(st:St)(K:V→St→Option R):Option R:=
 match O6 P t,l,c with
 |some e,.d (.int .i64 n),.d (.int .i64 m)=>
  (match uY P e with
  |some z=>bif lM P e&&ZG z then
    (bif decide (0≤n)&&decide (n≤m)&&decide (m≤M4) then K (.row nid) (newRow st nid e (K2 P e) (List.replicate n.toNat z)) else none) else none
  |none=>none)
 |_,_,_=>none
def BS {R:Type}(_P:Program)(d x:V)(st:St)(K:V→St→Option R):Option R:=
 match d with
 | .row o=>match st.h o,yR st.h x with
  |some (.row e sz xs false),some (sz',ys)=>
   bif Nat.beq sz 1&&(Nat.beq sz sz'||ys.isEmpty)&&(match x with | .row o'=>!(Nat.beq o o') | .sub o' _ _ _=>!(Nat.beq o o')|_=>true) then
    K (.d (.int .i64 (min ys.length xs.length:Nat))) (st.M7 o (some (.row e sz (ys.take xs.length++xs.drop ys.length) false)))
   else none
  |_,_=>none
 |_=>none
def IV {R:Type}(P:Program)(t:TypeId)(st:St)(x:V)(K:Int→Option R):Option R:=
 match P.underlying t with
 |some .string=>(match x with | .d (.str s)=>K s.length|_=>none)
 |some (.slice _)=>(match yR st.h x with|some (_,xs)=>K xs.length|none=>(match x with | .row o=>(match st.h o with|some (.nst _ _ _ xs)=>K xs.length|_=>none)|_=>none))
 |some (.map _ _)=>(match x with | .mp o=>(match st.h o with|some (.mp _ xs)=>K xs.length|_=>none) | .d .nilm=>K 0|_=>none)
 |_=>none
def mS (k:D):List D→Option Nat
 |[]=>none
 |x::r=>bif fA k (x.at_ 0) then some 0 else (match mS k r with|some i=>some (i+1)|none=>none)
def LW (k:D)(xs:List D):Bool:=match mS k xs with|some _=>true|none=>false
def getM (z k:D)(xs:List D):D:=match mS k xs with|some i=>(xs[i]?.getD .top).at_ 1|none=>z
def zL (k v:D)(xs:List D):List D:=match mS k xs with|some i=>xs.set i (.agg [k,v])|none=>xs++[.agg [k,v]]
def FN (P:Program)(t:TypeId):Option (TypeId×TypeId):=match P.underlying t with|some (.map k e)=>some (k,e)|_=>none
def qN:Y2→Bool
 | .bool=>true
 | .int _=>true
 | .str=>true
 |_=>false
def iW {R:Type}(P:Program)(t:TypeId)(nid:Nat)(st:St)(K:V→St→Option R):Option R:=
 match FN P t with
 |some (k,_)=>bif qN (Q0 P k) then K (.mp nid) (st.M7 nid (some (.mp (Q0 P k) []))) else none
 |none=>none
def gI {R:Type}(P:Program)(t:TypeId)(x i:V)(ok:Bool)(st:St)(K:V→St→Option R):Option R:=
 match FN P t,i with
 |some (k,e),.d kd=>
  (match uY P e,(match x with | .mp o=>(match st.h o with|some (.mp kt xs)=>(bif Y2.same kt (Q0 P k) then some xs else none)|_=>none) | .d .nilm=>some []|_=>none) with
  |some z,some xs=>bif qN (Q0 P k)&&M0 (Q0 P k) kd then
    typed (kA P e) (getM z kd xs) fun y=>(bif ok then K (.tup [.d y,.d (.bool (LW kd xs))]) st else K (.d y) st) else none
  |_,_=>none)
 |_,_=>none
def lV {R:Type}(P:Program)(t:TypeId)(x i y:V)(st:St)(K:V→St→Option R):Option R:=
 match FN P t,i,x with
 |some (k,e),.d kd,.mp o=>
  (match st.h o,Mj (kA P e) st.h y with
  |some (.mp kt xs),some (d,fz)=>bif Y2.same kt (Q0 P k)&&qN kt&&M0 kt kd&&Nat.ble xs.length M4 then
    K .top ((st.freeze fz).M7 o (some (.mp kt (zL kd d xs)))) else none
  |_,_=>none)
 |_,_,_=>none
def GU (k:D)(xs:List D):Nat:=match mS k xs with|some i=>i|none=>xs.length
def Xo (i:Nat)(v:D)(xs:List D):List D:=xs.set i (.agg [(xs[i]?.getD .top).at_ 0,v])
def lU {R:Type}(P:Program)(t:TypeId)(x i:V)(st:St)(K:V→St→Option R):Option R:=
 match FN P t,i,x with
 |some (k,e),.d kd,.mp o=>
  (match st.h o,uY P e with
  |some (.mp kt xs),some z=>bif Y2.same kt (Q0 P k)&&qN kt&&M0 kt kd&&Nat.ble xs.length M4 then
    typed (kA P e) (getM z kd xs) fun y=>K (.tup [.d y,.d (.int .i64 (GU kd xs))]) (st.M7 o (some (.mp kt (zL kd (getM z kd xs) xs)))) else none
  |_,_=>none)
 |_,_,_=>none
def lO {R:Type}(P:Program)(t:TypeId)(x s y:V)(st:St)(K:V→St→Option R):Option R:=
 match FN P t,x,s with
 |some (_,e),.mp o,.d (.int _ n)=>
  (match st.h o,Mj (kA P e) st.h y with
  |some (.mp kt xs),some (d,fz)=>bif decide (0≤n)&&decide (n<xs.length) then
    K .top ((st.freeze fz).M7 o (some (.mp kt (Xo n.toNat d xs)))) else none
  |_,_=>none)
 |_,_,_=>none
def tD {R:Type}(P:Program)(t:TypeId)(x:V)(nid:Nat)(st:St)(K:V→St→Option R):Option R:=
 match FN P t,x with
 |some (_,_),.mp o=>(match st.h o with
  |some (.mp _ xs)=>K (.ptr nid 0) (st.M7 nid (some (.it t o [.int .i64 xs.length,.top])))
  |_=>none)
 |_,_=>none
def rX {R:Type}(P:Program)(x:V)(st:St)(K:V→St→Option R):Option R:=
 match x with
 | .ptr q 0=>(match st.h q with
  |some (.it t mo ns)=>(match FN P t,st.h mo with
   |some (k,e),some (.mp _ xs)=>(match Y ns 1 with
    | .int _ j=>bif (Y ns 0).i==(xs.length:Int) then
      typed (.leaf (Q0 P k)) ((xs[j.toNat]?.getD .top).at_ 0) fun y=>typed (kA P e) ((xs[j.toNat]?.getD .top).at_ 1) fun z=>K (.tup [.d y,.d z]) st
     else none
    |_=>none)
   |_,_=>none)
  |_=>none)
 |_=>none
def aI (d:Int):Option V→Option Int
 |none=>some d
 |some (.d (.int _ n))=>some n
 |_=>none
def lE {R:Type}(P:Program)(t:TypeId)(x:V)(lo hi mx:Option V)(st:St)(K:V→St→Option R):Option R:=
 match mx with
 |some _=>none
 |none=>
  bif !(match P.underlying t,x with|some .string,.d (.str _)=>true|some (.slice e),.d (.Z sz _)=>jZ P e&&Nat.beq sz (K2 P e)|some (.slice e),.row _=>jZ P e|_,_=>false) then none else
  match x with
  | .d (.str s)=>
   (match aI 0 lo,aI s.length hi with
   |some l,some h=>bif decide (0≤l)&&decide (l≤h)&&decide (h≤s.length) then K (.d (.str ((s.drop l.toNat).take (h.toNat-l.toNat)))) st else none
   |_,_=>none)
  | .d (.Z sz xs)=>
   (match aI 0 lo,aI xs.length hi with
   |some l,some h=>bif decide (0≤l)&&decide (l≤h)&&decide (h≤xs.length) then K (.d (.Z sz ((xs.drop l.toNat).take (h.toNat-l.toNat)))) st else none
   |_,_=>none)
  | .row o=>
   match st.h o with
   |some (.row e' sz xs _)=>bif !(match P.underlying t with|some (.slice e)=>Nat.beq e e'&&Nat.beq sz (K2 P e)|_=>false) then none else (match aI 0 lo,aI xs.length hi with
    |some l,some h=>bif decide (0≤l)&&decide (l≤h)&&decide (h≤xs.length) then K (.sub o sz l.toNat (h.toNat-l.toNat)) st else none
    |_,_=>none)
   |_=>none
  |_=>none
def tM {R:Type}(P:Program)(t:TypeId)(x:V)(hi:Option V)(nid:Nat)(st:St)(K:V→St→Option R):Option R:=
 match O6 P t,x,hi with
 |some e,.row o,some (.d (.int _ h))=>
  (match st.h o with
  |some (.row e' sz xs false)=>bif jZ P e&&Nat.beq e e'&&Nat.beq sz (K2 P e)&&decide (0≤h)&&decide (h≤(xs.length:Int)) then
    K (.row nid) (newRow (st.M7 o none) nid e' sz (xs.take h.toNat)) else none
  |_=>none)
 |_,_,_=>none
def rU {R:Type}(P:Program)(t:TypeId)(x:V)(st:St)(K:V→St→Option R):Option R:=
 match O6 P t,x with
 |some e,.sub o z lo n=>
  (match st.h o,uY P e with
  |some (.row e' sz xs false),some d=>bif lM P e&&ZG d&&Nat.beq sz (K2 P e)&&Nat.beq z sz&&Nat.ble (lo+n) xs.length then
    K .top (st.M7 o (some (.row e' sz (xs.take lo++List.replicate n d++xs.drop (lo+n)) false))) else none
  |_,_=>none)
 |_,_=>none
def X5 {R:Type}(P:Program)(t:TypeId)(x i:V)(st:St)(K:V→St→Option R):Option R:=
 bif !(match O6 P t,x with|some e,.d (.Z sz _)=>jZ P e&&Nat.beq sz (K2 P e)|some e,.row o=>jZ P e&&(match st.h o with|some (.row _ sz _ _)=>Nat.beq sz (K2 P e)|some (.nst ..)=>Nat.beq 1 (K2 P e)|_=>false)|some e,.ir o i=>jZ P e&&(match inner st.h o i with|some (sz,_)=>Nat.beq sz (K2 P e)|none=>false)|some e,.sub _ sz _ _=>jZ P e&&Nat.beq sz (K2 P e)|_,_=>false) then none else
 match i with
 | .d (.int _ n)=>
  match x with
  | .d (.Z sz xs)=>bif decide (0≤n)&&decide (n<xs.length) then K (.el sz xs n.toNat 0) st else none
  | .row o=>match st.h o with
   |some (.row _ sz xs _)=>bif decide (0≤n)&&decide (n<xs.length) then K (.rp o sz n.toNat 0) st else none
   |some (.nst _ _ _ xs)=>bif decide (0≤n)&&decide (n<xs.length) then K (.rp o 1 n.toNat 0) st else none
   |_=>none
  | .ir o k=>(match inner st.h o k with
   |some (sz,ys)=>bif decide (0≤n)&&decide (n<ys.length) then K (.irp o k sz n.toNat) st else none
   |none=>none)
  | .sub o z lo m=>match st.h o with
   |some (.row _ sz _ _)=>bif Nat.beq z sz&&decide (0≤n)&&decide (n<m) then K (.rp o sz (lo+n.toNat) 0) st else none
   |_=>none
  |_=>none
 |_=>none
def vG {R:Type}(P:Program)(t:TypeId)(o off:Nat)(m:Int)(st:St)(K:V→St→Option R):Option R:=
 match P.underlying t with
 |some (.array len e)=>bif jZ P e&&decide (0≤m)&&decide (m<(len:Int)) then K (.ptr o (off+m.toNat*K2 P e)) st else none
 |_=>none
def dE {R:Type}(c:Z6)(t:TypeId)(x:Operand)(vx vi:V)(st:St)(K:V→St→Option R):Option R:=
 match x with
 | .global n=>(match c.glob n,c.P.underlying t,vi with
  |some xs,some (.array len e),.d (.int _ m)=>bif jZ c.P e&&Nat.beq (K2 c.P e) 1&&Nat.beq len xs.length&&decide (0≤m)&&decide (m<(xs.length:Int)) then K (.el 1 xs m.toNat 0) st else none
  |_,_,_=>none)
 |_=>match vx,vi with
  | .ptr o off,.d (.int _ m)=>vG c.P t o off m st K
  |_,_=>X5 c.P t vx vi st K
def wS (c:Z6)(t nid:Nat)(cs:List V)(h:Nat→Option Ob):Option (List V×(Nat→Option Ob)):=
 match c.ZR t with
 |none=>some (cs,h)
 |some off=>(match cs[off]?,cs[off+1]? with
  |some (.d .nilp),some (.d (.nils e sz))=>bif Nat.blt 0 sz then some ((cs.set off (.bp t nid off)).set (off+1) (.row (nid+1)),fun x=>bif Nat.beq x (nid+1) then some (.row e sz [] false) else h x) else none
  |_,_=>none)
def wU {R:Type}(c:Z6)(t nid:Nat)(cs:List V)(st:St)(K:V→St→Option R):Option R:=
 bif c.wty t 0 then (match H5 (c.wty t) cs (nid+1) with
  |(vs,os,m)=>bif Nat.ble m (nid+32) then K (.ptr nid 0) (newVar { st with h:=Y0 st.h os } nid vs) else none)
 else
 match wS c t nid cs st.h with
 |some (cs',h')=>K (.ptr nid 0) (newVar { st with h:=h' } nid cs')
 |none=>none
def mC:List D→Bool
 |[]=>true
 | .int .u8 n::r=>decide (0≤n)&&decide (n<256)&&mC r
 |_=>false
def Eo (s:G0):List D:=s.map fun b=> .int .u8 (b.toNat:Int)
def YI (c:Z6)(g:Nat)(args:List V)(st:St):Option (Bool×V×St):=
 match args with
 |[.ptr o off]=>(match st.h o with
  |some (.var cs)=>(match cs[off]? with
   |some (.bp t o' f)=>bif Nat.beq o' o&&Nat.beq f off&&(match c.ZR t with|some k=>Nat.beq k off|none=>false)&&Nat.beq cs.length (K2 c.P t) then
     (bif c.cc g then some (true,.tup [],st)
     else bif c.bstr g then (match cs[off+1]? with
      |some (.row r)=>(match st.h r with
       |some (.row e sz xs false)=>some (mC xs&&Nat.beq sz 1&&Nat.beq e c.bty,.d (.str (xs.map toByte)),st.M7 r none)
       |_=>none)
      |_=>none)
     else none) else none
   |_=>none)
  |_=>none)
 |[.d (.nils x y)]=>bif c.cln g then some (true,.d (.nils x y),st) else none
 |_=>none
def BP {R:Type}(c:Z6)(rec:Task→Out)(f:V)(args:List V)(nid:Nat)(st:St)(K:V→St→Option R):Option R:=
 match f with
 | .d (.fn g)=>match YI c g args st with
  |some (b,v,st')=>bif b then K v st' else none
  |none=>match (match EA args with|some ds=>c.ext g ds|none=>none) with
  |some (b,r)=>bif b then K (FU (r.map V.d)) st else none
  |none=>eZ c rec false g args nid st K
 | .fn g caps=>eZ c rec false g (args++caps) nid st K
 |_=>none
def eX {R:Type}(c:Z6)(b:Builtin)(ts:Array TypeId)(args:List V)(nid:Nat)(st:St)(K:V→St→Option R):Option R:=
 match b,args with
 | .len,[x]=>(match ts[0]? with|some t=>IV c.P t st x fun n=>K (.d (.int .i64 n)) st|none=>none)
 | .append,[s,x]=>(match ts.toList with
  |[t,t']=>bif Nat.beq t t' then lK c.P t s x nid st K
    else bif (match c.P.underlying t' with|some .string=>true|_=>false) then (match x with | .d (.str s')=>gU c.P t s s' nid st K|_=>none) else none
  |_=>none)
 | .copy,[d,x]=>(match ts.toList with
  |[t,_]=>(match O6 c.P t with
   |some e=>bif jZ c.P e&&Nat.beq (K2 c.P e) 1 then BS c.P d x st K else none
   |none=>none)
  |_=>none)
 | .clear,[x]=>(match ts.toList with|[t]=>rU c.P t x st K|_=>none)
 | .max,[.d (.int k a),.d (.int k' b)]=>bif decide (k=k') then K (.d (.int k (max a b))) st else none
 | .min,[.d (.int k a),.d (.int k' b)]=>bif decide (k=k') then K (.d (.int k (min a b))) st else none
 |_,_=>none
def CU {R:Type}(c:Z6)(rec:Task→Out)(o:Oper)(nid:Nat)(st:St)(K:V→St→Option R):Option R:=
 let ev:=I1 st
 match o.op with
 | .move x=>force (ev x) fun v=>K v st
 | .assign x=>force (ev x) fun v=>match v with
  | .d (.nils _ _)=>bif M6 c.P o.type then (bif c.nas o.type then K (Y1 c.P o.type v) st else oH c.P o.type nid v st K) else K v st
  |v=>K v st
 | .pick x a b=>(match ev x with
  | .d (.bool t)=>bif t then force (ev a) (fun v=>K v st) else force (ev b) (fun v=>K v st)
  |_=>none)
 | .alloc t=>(match AI c.P t with
  |some z=>bif O7 (.d z) then (bif M6 c.P t then oH c.P t (nid+1) (.d z) st fun v st=>K (.ptr nid 0) (newVar st nid v.cells) else wU c t nid (V.d z).cells st K) else none
  |none=>none)
 | .box t x=>bif !(O7 (ev x)) then none else bif M6 c.P t then oH c.P t (nid+1) (ev x) st fun v st=>K (.ptr nid 0) (newVar st nid v.cells)
   else bif Nat.beq (ev x).cells.length (K2 c.P t) then wU c t nid (ev x).cells st K else none
 | .build t ps=>(match AI c.P t with
  |some z=>bif !(O7 (.d z)&&xP c.P t) then none else (match bZ c.P t ev (V.d z).cells ps.toList with
   |some cs=>K (T8 cs) st
   |none=>none)
  |none=>none)
 | .buildSlice t n ps=>(match O6 c.P t with
  |some e=>(match uY c.P e with
   |some z=>bif Nat.blt 0 (K2 c.P e)&&jZ c.P e&&Nat.ble (n*K2 c.P e) 16777216&&ZG z&&Nat.beq z.cells.length (K2 c.P e) then
     (match iF (kA c.P e) st.h ev (K2 c.P e) (List.replicate n z) ps.toList with
     |some (xs,fz)=>K (.row nid) (newRow (st.freeze fz) nid e (K2 c.P e) xs)
     |none=>none) else none
   |none=>none)
  |none=>none)
 | .load t p=>mX c.P t (ev p) st K
 | .store t p x=>tK c.P (c.wst t) t (ev p) (ev x) nid st K
 | .nilCheck x=>(match ev x with
  | .ptr q f=>K (.ptr q f) st
  | .el sz xs i f=>K (.el sz xs i f) st
  | .rp q sz i f=>K (.rp q sz i f) st
  | .d (.fn f)=>K (.d (.fn f)) st
  | .fn f caps=>K (.fn f caps) st
  | .d (.meth t nm x)=>bif (qU c.P t nm).isSome then K (.d (.meth t nm x)) st else none
  |_=>none)
 | .binOp op t x y _=>(match ev x,ev y with
  | .d a,.d b=>RZ c.P (c.nas t) op t a b fun z=>K (.d z) st
  | .ir q i,.d (.nils _ _)=>bif M6 c.P t&&(inner st.h q i).isSome then (match op with | .eql=>K (.d (.bool false)) st | .neq=>K (.d (.bool true)) st|_=>none) else none
  |_,_=>none)
 | .unOp op _ x=>(match ev x with
  | .d a=>uV op a fun z=>K (.d z) st
  |_=>none)
 | .convert src dst x=>(match c.P.underlying src,c.P.underlying dst,ev x with
  |some (.int _),some (.int k),.d (.int _ n)=>K (.d (.int k (k.wrap n))) st
  |some (.int _),some .string,.d (.int _ n)=>bif decide (0≤n)&&decide (n<128) then K (.d (.str [UInt8.ofNat n.toNat])) st else none
  |some .string,some .string,.d (.str s)=>K (.d (.str s)) st
  |some (.slice e),some .string,x=>(match c.P.underlying e with
   |some (.int .u8)=>(match yR st.h x with
    |some (_,xs)=>bif eV xs then K (.d (.str (xs.map toByte))) st else none
    |none=>none)
   |_=>none)
  |_,_,_=>none)
 | .makeFunc (.method nm) first captured=>(match first.toList with
  |[r]=>bif captured.isEmpty then (match ev r with | .d (.iface t x)=>K (.d (.meth t nm x)) st|_=>none) else none
  |_=>none)
 | .makeFunc (.func f) first captured=>bif captured.isEmpty&&first.isEmpty then K (.d (.fn f)) st else bif first.isEmpty then K (.fn f (captured.toList.map fun x=>bB (ev x))) st else none
 | .fieldAddr t x k=>(match nU c.P t k with
  |some (off,ft)=>bif Nat.blt 0 (K2 c.P ft)&&jZ c.P ft then (match ev x with
   | .ptr q f=>K (.ptr q (f+off)) st
   | .el sz xs i f=>K (.el sz xs i (f+off)) st
   | .rp q sz i f=>K (.rp q sz i (f+off)) st
   |_=>none) else none
  |none=>none)
 | .field t x k=>(match nU c.P t k with
  |some (off,ft)=>bif !(jZ c.P ft) then none else (match ev x with
   | .d (.agg cs)=>bif Nat.ble (off+K2 c.P ft) cs.length then (bif J5 c.P ft then K (.d (.agg ((cs.drop off).take (K2 c.P ft)))) st else (match cs[off]? with|some z=>K (.d z) st|none=>none)) else none
   | .agg cs=>bif Nat.ble (off+K2 c.P ft) cs.length then (bif J5 c.P ft then K (T8 ((cs.drop off).take (K2 c.P ft))) st else (match cs[off]? with|some z=>K z st|none=>none)) else none
   |_=>none)
  |none=>none)
 | .indexAddr t x i=>dE c t x (ev x) (ev i) st K
 | .index t x i=>(match c.P.underlying t,ev x,ev i with
  |some .string,.d (.str s),.d (.int _ n)=>bif decide (0≤n)&&decide (n<s.length) then K (.d (.int .u8 (s[n.toNat]?.getD 0).toNat)) st else none
  |_,_,_=>none)
 | .makeSlice t l m=>bif c.nst t then nZ c.P t (ev l) (ev m) nid st K else yS c.P t (ev l) (ev m) nid st K
 | .makeMap t r=>(match r with|none=>iW c.P t nid st K|some _=>none)
 | .lookup t x i ok=>gI c.P t (ev x) (ev i) ok st K
 | .mapEntry t x i=>lU c.P t (ev x) (ev i) st K
 | .entryStore t x s y=>lO c.P t (ev x) (ev s) (ev y) st K
 | .range t x=>tD c.P t (ev x) nid st K
 | .entry x=>rX c.P (ev x) st K
 | .mapUpdate t x i y=>lV c.P t (ev x) (ev i) (ev y) st K
 | .slice t x lo hi mx=>bif c.trn t&&lo.isNone&&hi.isSome then (match mx with|none=>tM c.P t (ev x) (hi.map ev) nid st K|some _=>none) else lE c.P t (ev x) (lo.map ev) (hi.map ev) (mx.map ev) st K
 | .makeInterface t x=>(match c.P.underlying t,ev x with
  |some (.interface _),_=>none
  |some _,.d d=>K (.d (.iface t d)) st
  |some _,v=>(match Ee st.h v with|some (d,fz)=>K (.d (.iface t d)) (st.freeze fz)|none=>none)
  |none,_=>none)
 | .extract x k=>(match ev x with
  | .tup vs=>bif Nat.blt k vs.length then force (AW vs k) fun v=>K v st else none
  |_=>none)
 | .call q=>(match q.callee with
  | .value f=>BP c rec (ev f) (q.args.toList.map ev) nid st K
  | .builtin b=>eX c b q.argTypes (q.args.toList.map ev) nid st K
  | .invoke x nm=>(match ev x with
   | .d (.iface t d)=>(match qU c.P t nm with
    |some f=>eZ c rec false f (.d d::q.args.toList.map ev) nid st K
    |none=>none)
   |_=>none))
 |_=>none
def labels (pre:List (Nat×Nat)):List V→Option (List (Nat×Nat))
 |[]=>some []
 | .ptr o off::r=>match I4 pre o,labels pre r with|some o',some zs=>bif Nat.beq o o' then some ((o,off)::zs) else none|_,_=>none
 |_=>none
def EP (pre:List (Nat×Nat))(st:St)(o:Oper):Option (Nat×List (Nat×Nat)):=
 match o.op with
 | .defer q=>(match q.callee,o.guard,o.dst with
  | .value f,none,none=>(match I1 st f with
   | .d (.fn g)=>(match labels pre (q.args.toList.map (I1 st)) with|some zs=>some (g,zs)|none=>none)
   |_=>none)
  |_,_,_=>none)
 |_=>none
def agree:Out→Out→Out
 |some (a,xs),some (b,ys)=>bif (a==b)&&D.eqs xs ys then some (a,xs) else none
 |_,_=>none
def nL:List Out→Out
 |[]=>none
 |x::r=>match r with|[]=>x|_::_=>agree x (nL r)
def CN (n:Nat)(ns:List D):List Nat:=(List.range n).filter fun j=>!(ns.any fun x=>x.i==(j:Int))
def PT (l:List Nat)(a:Out)(f:Nat→Out):Out:=match l with|[]=>a|_::_=>nL (l.map f)
def JZ (ns:List D)(j:Nat):List D:=Y ns 0 :: .int .i64 j::(ns.drop 2++[.int .i64 j])
def JP (ns:List D):List D:=Y ns 0 :: .top::(List.range (Y ns 0).i.toNat).map fun (j:Nat)=> .int .i64 (j:Int)
def MI (st:St)(o:Oper):Option (Nat×Nat×Nat×List D×Nat×Nat):=
 match o.op with
 | .next x false=>(match I1 st x,o.guard,o.dst with
  | .ptr q 0,none,some d=>(match st.h q with
   |some (.it t mo ns)=>(match st.h mo with
    |some (.mp _ xs)=>some (q,t,mo,ns,d,xs.length)
    |_=>none)
   |_=>none)
  |_,_,_=>none)
 |_=>none
def qX (c:Z6)(rec:Task→Out)(nt:Nat)(pre:List (Nat×Nat))(all:List Oper)(st0:Nat):Nat→List Oper→St→(St→Out)→Out
 |_,[],st,K=>K st
 |i,o::r,st,K=>
  match EP pre st o with
  |some d=>qX c rec nt pre all st0 (i+1) r { st with m:=⟨st.m.k,d::st.m.df⟩ } K
  |none=>
  match MI st o with
  |some (q,t,mo,ns,d,m)=>bif Nat.blt d nt&&(Y ns 0).i==(m:Int) then
    PT (CN (Y ns 0).i.toNat (ns.drop 2)) (qX c rec nt pre all st0 (i+1) r ((st.M7 q (some (.it t mo (JP ns)))).set d (.tup [.d (.bool false)])) K)
     (fun j=>qX c rec nt pre all st0 (i+1) r ((st.M7 q (some (.it t mo (JZ ns j)))).set d (.tup [.d (.bool true),.top,.top])) K) else none
  |none=>
  let on (st:St):Out:=
   bif (match o.dst with|some d=>Nat.blt d nt|none=>true) then CU c rec o (st0+32*i) st fun v st'=>qX c rec nt pre all st0 (i+1) r (st'.put o.dst v) K else none
  match o.guard with
  |none=>on st
  |some (j,want)=>
   match (all[j]?).bind (·.dst) with
   |none=>none
   |some d=>match st.t d with
    | .d .und=>bif (match o.dst with|some d=>Nat.blt d nt|none=>true) then qX c rec nt pre all st0 (i+1) r (st.put o.dst (.d .und)) K else none
    | .d (.bool b)=>bif b then
      (let st:=st.set d (.d (.bool true));bif want then on st else (bif (match o.dst with|some d=>Nat.blt d nt|none=>true) then qX c rec nt pre all st0 (i+1) r (st.put o.dst (.d .und)) K else none))
     else (let st:=st.set d (.d (.bool false));bif want then (bif (match o.dst with|some d=>Nat.blt d nt|none=>true) then qX c rec nt pre all st0 (i+1) r (st.put o.dst (.d .und)) K else none) else on st)
    |_=>none
def V3 (x:Nat)(xs:List Nat):Bool:=xs.any (Nat.beq x)
def meets (xs ys:List Nat):Bool:=xs.any fun x=>V3 x ys
def Lm:V→List Nat
 | .ptr o _=>[o]
 | .rp o _ _ _=>[o]
 | .row o=>[o]
 | .sub o _ _ _=>[o]
 | .mp o=>[o]
 | .ir o _=>[o]
 | .irp o _ _ _=>[o]
 |_=>[]
def Xk:V→List Nat
 | .agg cs=>cs.flatMap Lm
 | .fn _ cs=>cs.flatMap Lm
 |v=>Lm v
def L8:List Operand→List Nat
 |[]=>[]
 | .tmp t::r=>t::L8 r
 |_::r=>L8 r
def sJ:Op→Bool
 | .move _=>true
 | .assign _=>true
 | .pick ..=>true
 | .alloc _=>true
 | .box ..=>true
 | .build ..=>true
 | .load ..=>true
 | .nilCheck _=>true
 | .binOp ..=>true
 | .unOp ..=>true
 | .convert ..=>true
 | .makeFunc ..=>true
 | .fieldAddr ..=>true
 | .field ..=>true
 | .indexAddr ..=>true
 | .index ..=>true
 | .makeSlice ..=>true
 | .slice _ _ lo hi _=>lo.isSome||hi.isNone
 | .makeMap ..=>true
 | .lookup ..=>true
 | .extract ..=>true
 | .call q=>match q.callee with
  | .builtin .len=>true
  | .builtin .max=>true
  | .builtin .min=>true
  |_=>false
 |_=>false
def Ik:Op→Bool
 | .call q=>match q.callee with
  | .value _=>true
  |_=>false
 |_=>false
def looks:Op→Bool
 | .load ..=>true
 | .store ..=>true
 | .indexAddr ..=>true
 | .slice ..=>true
 | .convert ..=>true
 | .buildSlice ..=>true
 | .call _=>true
 | .lookup ..=>true
 | .mapUpdate ..=>true
 | .mapEntry ..=>true
 | .entryStore ..=>true
 | .makeInterface ..=>true
 | .binOp ..=>true
 |_=>false
def given (dep:Nat)(st:St)(o:Oper):List Nat:=
 bif !(looks o.op) then [] else
 let os:=dV [] ((L8 o.op.operands.toList).flatMap fun t=>Xk (st.t t))
 bif Ik o.op then reach st.h dep os else
 match o.op with
 | .store _ (.tmp t) _=>(match st.t t with | .ptr q _=>[q]|_=>os)
 |_=>os
structure bS where
 temps:List Nat
 dst:Option Nat
 objs:List Nat
 writes:List Nat
 ld:Option (Nat×Nat×V):=none
def IU (P:Program)(st:St)(o:Oper):Option (Nat×Nat):=match o.op with
 | .load t (.tmp x)=>(match st.t x with | .ptr q off=>bif J5 P t then none else some (q,off)|_=>none)
 |_=>none
def HX (h:Nat→Option Ob)(q off:Nat):V:=match h q with|some (.var cs)=>(cs[off]?).getD .top|_=> .top
def DK:V→V→Bool
 | .row a,.row b=>Nat.beq a b
 | .ptr a x,.ptr b y=>Nat.beq a b&&Nat.beq x y
 | .d x,.d y=>(match x with | .top=>false|_=>true)&&D.eq x y
 |_,_=>false
def steady (h:Nat→Option Ob)(jX:List Nat)(b:bS):Nat→List bS→Bool
 |_,[]=>true
 |j,a::r=>(match a.ld with|some (q,off,u)=>bif V3 j jX||!(V3 q b.writes) then true else DK (HX h q off) u|none=>true)&&steady h jX b (j+1) r
def S4 (T F:List Nat)(st:St):St:=⟨fun t=>bif V3 t T then st.t t else .top,fun o=>bif V3 o F then st.h o else none,st.m⟩
def qK (nid o:Nat):Bool:=Nat.ble nid o&&Nat.blt o (nid+32)
def uF (F:List Nat)(nid:Nat)(h h':Nat→Option Ob):Nat→Option Ob:=fun o=>bif V3 o F||qK nid o then h' o else h o
def GG (d:Option Nat)(xs:List Nat):Bool:=match d with|some d=>V3 d xs|none=>false
def xA (nid:Nat)(a b:bS):Bool:=
 GG a.dst b.temps||GG b.dst a.temps||(match a.dst,b.dst with|some x,some y=>Nat.beq x y|_,_=>false)||meets a.writes b.objs||(a.ld.isNone&&meets b.writes a.objs)||b.objs.any (qK nid)
def V0 (st0:Nat)(jX:List Nat)(b:bS):Nat→List bS→Bool
 |_,[]=>true
 |j,a::r=>(V3 j jX||!(xA (st0+32*j) a b))&&V0 st0 jX b (j+1) r
def T0 (e:Edge):Bool:=match e.ground with
 | .textOnly _=>false
 | .gcOnly _=>false
 |_=>true
def eW (ancs:List (List Nat)):List Edge→List Nat
 |[]=>[]
 |e::r=>bif T0 e then dV (dV [e.on] ((ancs[e.on]?).getD [])) (eW ancs r) else eW ancs r
def gB (i:Nat):List Edge→Bool
 |[]=>true
 |e::r=>(!(T0 e)||Nat.blt e.on i)&&gB i r
def qA (c:Z6)(rec:Task→Out)(nt:Nat)(all:List Oper)(st0:Nat):Nat→List Oper→List bS→List (List Nat)→St→(St→Out)→Out
 |_,[],_,_,st,K=>K st
 |i,o::r,fs,ancs,st,K=>
  let jX:=eW ancs o.after.toList
  let T:=L8 o.op.operands.toList
  let G:=match o.guard with|none=>[]|some (j,_)=>match (all[j]?).bind (·.dst) with|none=>[]|some d=>[d]
  let okd:=match o.dst with|some d=>Nat.blt d nt|none=>true
  let on (st:St):Out:=
   let F:=given c.dep st o
   let ft:bS:=⟨T++G,o.dst,F,bif sJ o.op then [] else F,none⟩
   bif okd&&gB i o.after.toList&&V0 st0 jX ft 0 fs&&F.all (fun x=>Nat.blt x (st0+32*i)) then
    CU c rec o (st0+32*i) (S4 T F st) fun v st'=>
     bif steady (uF F (st0+32*i) st.h st'.h) jX ft 0 fs then
      qA c rec nt all st0 (i+1) r (fs++[{ ft with ld:=(IU c.P st o).map fun p=>(p.1,p.2,v) }]) (ancs++[jX]) { st.put o.dst v with h:=uF F (st0+32*i) st.h st'.h } K
     else none
   else none
  let off (st:St):Out:=
   let ft:bS:=⟨G,o.dst,[],[],none⟩
   bif okd&&gB i o.after.toList&&V0 st0 jX ft 0 fs then qA c rec nt all st0 (i+1) r (fs++[ft]) (ancs++[jX]) (st.put o.dst (.d .und)) K else none
  match o.guard with
  |none=>on st
  |some (j,want)=>
   match (all[j]?).bind (·.dst) with
   |none=>none
   |some d=>match st.t d with
    | .d .und=>off st
    | .d (.bool b)=>bif b then (let st:=st.set d (.d (.bool true));bif want then on st else off st)
     else (let st:=st.set d (.d (.bool false));bif want then off st else on st)
    |_=>none
def refine (st:St)(x:Operand)(b:Bool):St:=match x with | .tmp t=>st.set t (.d (.bool b))|_=>st
inductive Ex where
 |normal
 |ret
 |exit (id:Nat)
def Oi (c:Z6)(f:Nat):Operand→Code→List Nat
 | .tmp _,.skip=>[]
 | .tmp t,_=>c.cut f t
 |_,_=>[]
def exec (c:Z6)(rec:Task→Out)(f nt:Nat)(osk:Sk)(pre:List (Nat×Nat)):Code→St→(Ex→St→Out)→Out
 | .skip,st,K=>K .normal st
 | .region _ ops draw,st,K=>bif draw then (bif c.P.follows .mixedOrders then qA c rec nt ops.toList st.n 0 ops.toList [] [] st fun st'=>K .normal { st' with m:=⟨st.n+32*ops.size,st'.m.df⟩ } else none)
   else qX c rec nt pre ops.toList st.n 0 ops.toList st fun st'=>K .normal { st' with m:=⟨st.n+32*ops.size,st'.m.df⟩ }
 | .seq a b,st,K=>exec c rec f nt osk pre a st fun e st'=>match e with | .normal=>exec c rec f nt osk pre b st' K|e=>K e st'
 | .cond x a b,st,K=>match Oi c f x a with
  |t::ts=>
   let st:=QQ c.dep st (pre.map (·.1)) (t::ts)
   let sk:=WC c.dep st (pre.map (·.1)) (t::ts)
   match EK sk pre st with
   |some cf=>cX (rec (.loop f osk pre st.m.df true 0 (.cond x a b) sk cf.ds)) fun ds=>bif aL sk ds then K .normal ((O0 sk ds).later st.m.df) else none
   |none=>none
  |[]=>match I1 st x with
  | .d (.bool t)=>bif t then exec c rec f nt osk pre a (refine st x true) K else exec c rec f nt osk pre b (refine st x false) K
  | .d .ub=>agree (exec c rec f nt osk pre a st K) (exec c rec f nt osk pre b st K)
  |_=>none
 | .block id (.loop body),st,K=>
  let st:=QQ c.dep st (pre.map (·.1)) ((c.keep f id).filter fun t=>!c.nowid f t)
  let sk:=WC c.dep st (pre.map (·.1)) (c.keep f id)
  match EK sk pre st with
  |some cf=>cX (rec (.loop f osk pre st.m.df false id body sk cf.ds)) fun ds=>bif aL sk ds then K .normal ((O0 sk ds).later st.m.df) else none
  |none=>none
 | .block id b,st,K=>exec c rec f nt osk pre b st fun e st'=>match e with | .exit j=>bif Nat.beq j id then K .normal st' else K (.exit j) st'|e=>K e st'
 | .exit id,st,K=>K (.exit id) st
 | .ret,st,K=>K .ret st
 |_,_,_=>none
def LO (c:Z6)(rec:Task→Out)(f nt:Nat)(osk:Sk)(pre:List (Nat×Nat)):Code→St→(Ex→St→Out)→Out
 | .cond x a b,st,K=>match I1 st x with
  | .d (.bool t)=>bif t then exec c rec f nt osk pre a (refine st x true) K else exec c rec f nt osk pre b (refine st x false) K
  |_=>none
 |_,_,_=>none
def eD (c:Z6)(rec:Task→Out)(rs:List ResultVar)(osk:Sk)(pre:List (Nat×Nat)):List (Nat×List (Nat×Nat))→St→Out
 |[],st=>finish c.P rs osk pre st
 |(f,zs)::r,st=>eZ c rec true f (zs.map fun x=>V.ptr x.1 x.2) st.n st fun _ st'=>eD c rec rs osk pre r { st' with m:=⟨st.n+32,st'.m.df⟩ }
def run (c:Z6):Nat→Task→Out
 |0,_=>none
 |n+1,.call f sk ds=>
  match c.orc f sk ds with
  |some r=>some (true,r)
  |none=>
   match c.P.funcs[f]? with
   |some fn=>(match fn.body with
    |some body=>
     let osk:=V5 c.P (c.dres f) fn.resultTypes.toList sk
     let pre:=L2 0 sk.objs
     bif aL sk ds then exec c (run c n) f fn.ntmps osk pre body (O0 sk ds) fun e st=>match e with
      | .ret=>eD c (run c n) fn.results.toList osk pre st.m.df st
      | .normal=>eD c (run c n) fn.results.toList osk pre st.m.df st
      | .exit _=>none
     else none
    |none=>none)
   |none=>none
 |n+1,.loop f osk pre df once id body sk ds=>
  match c.P.funcs[f]? with
  |some fn=>
   bif aL sk ds then (bif once then LO c (run c n) f fn.ntmps osk pre body ((O0 sk ds).later df) else exec c (run c n) f fn.ntmps osk pre body ((O0 sk ds).later df)) fun e st=>match e with
    | .ret=>eD c (run c n) fn.results.toList osk pre st.m.df st
    | .normal=>bif !(zQ df st.m.df) then none else (match EK sk pre st with|some cf=>bif once then some (false,cf.ds) else run c n (.loop f osk pre df once id body sk cf.ds)|none=>none)
    | .exit j=>bif Nat.beq j id&&!once&&zQ df st.m.df then (match EK sk pre st with|some cf=>some (false,cf.ds)|none=>none) else none
   else none
  |none=>none
def SN:List (Nat×List D)→Nat→Option (List D)
 |[],_=>none
 |(m,xs)::r,n=>bif Nat.beq n m then some xs else SN r n
def Ec:List (Nat×Nat×Nat)→Nat→Nat→Nat
 |[],_,_=>0
 |(a,b,v)::r,x,y=>bif Nat.beq x a&&Nat.beq y b then v else Ec r x y
def Ti:List (Nat×List (Nat×Nat×Nat))→Nat→Nat→Nat→Nat
 |[],_,_,_=>0
 |(a,l)::r,f,x,y=>bif Nat.beq f a then Ec l x y else Ti r f x y
def Ga:List (Nat×Nat×List (Nat×SV)×List eQ)→Nat→Nat→Option (List (Nat×SV)×List eQ)
 |[],_,_=>none
 |(a,b,v)::r,x,y=>bif Nat.beq x a&&Nat.beq y b then some v else Ga r x y
def aA2 (m:List (Nat×Nat×Nat))(o:List (Nat×Nat×List (Nat×SV)×List eQ))(f:Nat):DR:=⟨Ec m f,Ga o f⟩
def YS:List (Nat×Nat×List Nat)→Nat→Nat→List Nat
 |[],_,_=>[]
 |(a,b,v)::r,x,y=>bif Nat.beq x a&&Nat.beq y b then v else YS r x y
def aZ (id:Nat):Code→Option Code
 | .block j (.loop b)=>bif Nat.beq j id then some b else aZ id b
 | .block _ b=>aZ id b
 | .loop b=>aZ id b
 | .seq a b=>match aZ id a with|some c=>some c|none=>aZ id b
 | .cond _ a b=>match aZ id a with|some c=>some c|none=>aZ id b
 | .scope b=>aZ id b
 |_=>none
def dA (t:Nat):Code→Option Code
 | .cond x a b=>bif (match x,a with | .tmp _,.skip=>false | .tmp y,_=>Nat.beq y t|_,_=>false) then some (.cond x a b) else match dA t a with|some c=>some c|none=>dA t b
 | .block _ b=>dA t b
 | .loop b=>dA t b
 | .seq a b=>match dA t a with|some c=>some c|none=>dA t b
 | .scope b=>dA t b
 |_=>none
def Hl (c:Z6)(f t:Nat):Code:=match c.P.funcs[f]? with|some fn=>(match fn.body with|some b=>(dA t b).getD .skip|none=> .skip)|none=> .skip
def Hf (c:Z6)(f id:Nat):Code:=match c.P.funcs[f]? with|some fn=>(match fn.body with|some b=>(aZ id b).getD .skip|none=> .skip)|none=> .skip
end Go.AE
namespace Go.AE
def dW (h:Nat→Option Obj)(a:Addr):Option Value:=
 match h a.block with
 |some (.cells c _ _)=>if a.spot.isSome then none else c[a.off]?
 |_=>none
mutual
def VD (h:Nat→Option Obj):D→Value→Prop
 | .top,_=>True
 | .bool b,v=>v = .bool b
 | .int k n,v=>v = .int k n
 | .str s,v=>∃ b:ByteArray,v = .string b∧b.data.toList=s
 | .Z sz xs,v=>∃ A cap,v = .slice A xs.length cap∧xs.length≤cap∧cap≤maxLen∧(xs=[]∨∃ ad,A=some ad∧HG h sz xs ad)
 | .nils _ _,v=>v = .slice none 0 0
 | .und,v=>v=undef
 | .agg cs,v=>∃ us:Array Value,v = .agg us∧jV h cs us.toList
 | .fn f,v=>v = .func (.func f) #[] #[]
 | .nilp,v=>v = .pointer none
 | .nilf,v=>v = .nilFunc
 | .nilm,v=>v = .map none
 | .nili,v=>v = .nilIface
 | .ub,v=>∃ b,v = .bool b
 | .iface t x,v=>∃ u,v = .iface t u∧VD h x u
 | .meth t nm x,v=>∃ u,v = .func (.method nm) #[.iface t u] #[]∧VD h x u
def jV (h:Nat→Option Obj):List D→List Value→Prop
 |[],us=>us=[]
 |x::xs,us=>∃ u r,us=u::r∧VD h x u∧jV h xs r
def HG (h:Nat→Option Obj)(sz:Nat):List D→Addr→Prop
 |[],_=>True
 |x::xs,ad=>(∃ v:Value,v.cells.size=sz∧(∀ j u,v.cells[j]? = some u→dW h (ad.add j)=some u)∧(∀ u∈v.cells.toList,u.oneCell'=true)∧VD h x v)∧HG h sz xs (ad.add sz)
end
def aT (h:Nat→Option Obj)(sz:Nat):List D→List Value→Prop
 |[],us=>us=[]
 |x::xs,us=>∃ (v:Value) (r:List Value),us=v.cells.toList++r∧v.cells.size=sz∧(∀ u∈v.cells.toList,u.oneCell'=true)∧VD h x v∧aT h sz xs r
structure G where
 h:Nat→Option Obj
 blk:Nat→Nat
 hdr:Nat→Value
 ihdr:Nat→Nat→Option Value
inductive F2 {α β:Type} (r:α→β→Prop):List α→List β→Prop
 |nil:F2 r [] []
 |cons {a b zs bs}:r a b→F2 r zs bs→F2 r (a::zs) (b::bs)
def X4:Value→Nat | .slice _ n _=>n|_=>0
def VL (g:G):V→Value→Prop
 | .d x,v=>VD g.h x v
 | .ptr o off,v=>v = .pointer (some ⟨g.blk o,off,none⟩)
 | .el sz xs i off,v=>∃ ad,HG g.h sz xs ad∧i<xs.length∧v = .pointer (some (ad.add (i*sz+off)))
 | .rp o sz i off,v=>i<X4 (g.hdr o)∧∃ b,(g.hdr o).ownBlock=some b∧v = .pointer (some ⟨b,i*sz+off,none⟩)
 | .row o,v=>v=g.hdr o∧v.oneCell'=true
 | .sub o sz lo n,v=>lo+n≤X4 (g.hdr o)∧∃ A cap,v = .slice A n cap∧n≤cap∧cap≤maxLen∧(n=0∨∃ b,(g.hdr o).ownBlock=some b∧A=some ⟨b,lo*sz,none⟩)
 | .agg _,_=>False
 | .fn f [],v=>v = .func (.func f) #[] #[]
 | .fn _ (_::_),_=>False
 | .tup _,_=>False
 | .mp o,v=>v = .map (some (g.blk o))
 | .bp _ o off,v=>v = .pointer none∨v = .pointer (some ⟨g.blk o,off,none⟩)
 | .ir o i,v=>g.ihdr o i=some v∧v.oneCell'=true∧i<X4 (g.hdr o)
 | .irp o i sz j,v=>i<X4 (g.hdr o)∧∃ hd b,g.ihdr o i=some hd∧j<X4 hd∧hd.ownBlock=some b∧v = .pointer (some ⟨b,j*sz,none⟩)
def VA (g:G):V→Value→Prop
 | .agg cs,v=>∃ us:Array Value,v = .agg us∧F2 (VL g) cs us.toList
 | .fn f (c::caps),v=>∃ us:Array Value,v = .func (.func f) #[] us∧F2 (VL g) (c::caps) us.toList
 |x,v=>VL g x v
def VV (g:G):V→Value→Prop
 | .tup vs,v=>∃ us:Array Value,v = .tuple us∧F2 (VA g) vs us.toList
 |x,v=>VA g x v
def Gz (n:Nat)(ns:List Nat)(xs:List D):Prop:=
 ∃ (last:D) (ks:List Nat),xs = .int .i64 n::last::ks.map (fun k=>D.int .i64 (k:Nat))∧(∀ k,k∈ns↔k∈ks)∧(∀ k∈ks,k<n)∧∀ kk j,last = .int kk j→∃ j':Nat,j=(j':Int)∧ns.getLast? = some j'
def NE (g:G)(o ie sz:Nat)(w:World)(j:Nat)(x:D)(u:Value):Prop:=
 (∃ a b,x = .nils a b∧u = .slice none 0 0∧g.ihdr o j=none)∨
 ∃ ys vs,x = .Z sz ys∧ys≠[]∧g.ihdr o j=some u∧u.oneCell'=true∧w.ownsRow 0 ie sz u ys.length vs∧aT g.h sz ys vs
def OB (g:G)(o:Nat):Ob→World→Prop
 | .var cs,w=>∃ (c:Array Value) (e:TypeId),w.heap[g.blk o]? = some (.cells c e (0,0))∧F2 (VA g) cs c.toList∧(∀ u∈c.toList,u.oneCell'=true)∧(∀ t o' f,V.bp t o' f∈cs→e=t)
 | .mp kt xs,w=>∃ (es:Array MapEntry) (clock:Nat),w.heap[g.blk o]? = some (.map es clock)∧F2 (fun x (m:MapEntry)=>VD g.h (x.at_ 0) m.key∧VD g.h (x.at_ 1) m.val∧M0 kt (x.at_ 0)=true) xs es.toList∧clock=es.size∧∀ j (m:MapEntry),es[j]? = some m→m.born=j
 | .it _ mo xs,w=>∃ (n:Nat) (ns:List Nat),Gz n ns xs∧w.heap[g.blk o]? = some (.mapIter (some (g.blk mo)) n ns.toArray n)
 | .row e sz xs false,w=>∃ us,0<sz∧w.ownsRow 0 e sz (g.hdr o) xs.length us∧aT g.h sz xs us
 | .row _ sz xs true,_=>(g.hdr o = .slice none 0 0∧xs=[])∨∃ b cap,g.hdr o = .slice (some ⟨b,0,none⟩) xs.length cap∧xs.length≤cap∧cap≤maxLen∧HG g.h sz xs ⟨b,0,none⟩
 | .nst e ie sz xs,w=>0<sz∧(∃ us,w.ownsRow 0 e 1 (g.hdr o) xs.length us∧∀ (j:Nat) x,xs[j]? = some x→∃ u,us[j]? = some u∧NE g o ie sz w j x u)∧
   (∀ i v b,i<xs.length→g.ihdr o i=some v→v.ownBlock=some b→(g.hdr o).ownBlock≠some b∧∀ j v',j<xs.length→g.ihdr o j=some v'→v'.ownBlock=some b→j=i)
def S9 (g:G)(o:Nat):Ob→Nat→Prop
 | .var _,b=>g.blk o=b
 | .row _ _ _ false,b=>(g.hdr o).ownBlock=some b
 | .row _ _ _ true,_=>False
 | .mp _ _,b=>g.blk o=b
 | .it ..,b=>g.blk o=b
 | .nst _ _ _ xs,b=>(g.hdr o).ownBlock=some b∨∃ i v,i<xs.length∧g.ihdr o i=some v∧v.ownBlock=some b
def V.aS (p:Nat→Prop):V→Prop
 | .ptr o _=>p o
 | .rp o _ _ _=>p o
 | .row o=>p o
 | .sub o _ _ _=>p o
 | .mp o=>p o
 | .bp _ o _=>p o
 | .ir o _=>p o
 | .irp o _ _ _=>p o
 |_=>True
def V.K7 (p:Nat→Prop):V→Prop
 | .agg cs=>∀ v∈cs,v.aS p
 | .fn _ caps=>∀ v∈caps,v.aS p
 | .tup _=>False
 |v=>v.aS p
def V.K5 (p:Nat→Prop):V→Prop
 | .tup vs=>∀ v∈vs,v.K7 p
 |v=>v.K7 p
def Ob.K5 (p:Nat→Prop):Ob→Prop
 | .var cs=>∀ v∈cs,v.K7 p
 | .it _ mo _=>p mo
 |_=>True
structure J2 (u:Nat→Option Obj) (p:Nat→Prop) (g:G) (h:Nat→Option Ob) (w:World):Prop where
 frz:∀ b x,g.h b=some x→w.heap[b]? = some x
 unt:∀ b x,u b=some x→w.heap[b]? = some x
 ob:∀ o x,h o=some x→OB g o x w
 sep:∀ o x b,h o=some x→S9 g o x b→g.h b=none∧u b=none
 inj:∀ o o' x x' b,h o=some x→h o'=some x'→S9 g o x b→S9 g o' x' b→o=o'
 use:∀ o x,h o=some x→p o∧x.K5 p
 dj:∀ b,g.h b=none∨u b=none
structure aE7 (u:Nat→Option Obj) (p:Nat→Prop) (g:G) (st:St) (tm:Nat→Value) (w:World):Prop where
 hp:J2 u p g st.h w
 tm:∀ t,VV g (st.t t) (tm t)
 nm:∀ t,(st.t t).K5 p
structure Ext (g:G) (w:World) (g':G) (w':World):Prop where
 h:∀ b x,g.h b=some x→g'.h b=some x
 os:w'.os=w.os
 tape:w'.tape=w.tape
 output:w'.output=w.output
 size:w.heap.size≤w'.heap.size
theorem Ext.refl (g:G)(w:World):Ext g w g w:=⟨fun _ _ h=>h,rfl,rfl,rfl,B9 _⟩
theorem Ext.trans {g1 g2 g3:G}{w1 w2 w3:World}(a:Ext g1 w1 g2 w2)(b:Ext g2 w2 g3 w3):Ext g1 w1 g3 w3:=
 ⟨fun x y h=>b.h x y (a.h x y h),b.os.trans a.os,b.tape.trans a.tape,b.output.trans a.output,Nat.le_trans a.size b.size⟩
theorem Y2.vV {a b:Y2}(h:Y2.same a b=true):a=b:=by
 cases a<;>cases b<;>simp_all [Y2.same]
theorem F2.length {α β:Type}{r:α→β→Prop}{zs:List α}{bs:List β}(h:F2 r zs bs):zs.length=bs.length:=by
 induction h with
 |nil=>rfl
 |cons _ _ ih=>simp [ih]
theorem F2.mono {α β:Type}{r s:α→β→Prop}{zs:List α}{bs:List β}(h:F2 r zs bs)(hm:∀ a∈zs,∀ b,r a b→s a b):F2 s zs bs:=by
 induction h with
 |nil=>exact .nil
 |cons hr _ ih=>exact .cons (hm _ (by simp) _ hr) (ih fun a ha=>hm a (by simp [ha]))
theorem F2.get {α β:Type}{r:α→β→Prop}{zs:List α}{bs:List β}(h:F2 r zs bs):∀ (j:Nat) (a:α),zs[j]? = some a→∃ b,bs[j]? = some b∧r a b:=by
 induction h with
 |nil=>intro j a ha;simp at ha
 |cons hr _ ih=>
  intro j a ha
  cases j with
  |zero=>simp at ha;subst ha;exact⟨_,rfl,hr⟩
  |succ j=>simpa using ih j a (by simpa using ha)
theorem F2.append {α β:Type}{r:α→β→Prop}{zs zs':List α}{bs bs':List β}(h:F2 r zs bs)(h':F2 r zs' bs'):F2 r (zs++zs') (bs++bs'):=by
 induction h with
 |nil=>exact h'
 |cons hr _ ih=>exact .cons hr ih
theorem F2.drop {α β:Type}{r:α→β→Prop}{zs:List α}{bs:List β}(h:F2 r zs bs):∀ n,F2 r (zs.drop n) (bs.drop n):=by
 induction h with
 |nil=>intro n;simp;exact .nil
 |cons hr ht ih=>
  intro n
  cases n with
  |zero=>exact .cons hr ht
  |succ n=>simpa using ih n
theorem F2.take {α β:Type}{r:α→β→Prop}{zs:List α}{bs:List β}(h:F2 r zs bs):∀ n,F2 r (zs.take n) (bs.take n):=by
 induction h with
 |nil=>intro n;simp;exact .nil
 |cons hr _ ih=>
  intro n
  cases n with
  |zero=>simp;exact .nil
  |succ n=>simpa using F2.cons hr (ih n)
theorem F2.set {α β:Type}{r:α→β→Prop}{zs:List α}{bs:List β}(h:F2 r zs bs){a:α}{b:β}(hr:r a b):∀ n,F2 r (zs.set n a) (bs.set n b):=by
 induction h with
 |nil=>intro n;simp;exact .nil
 |cons hr' ht ih=>
  intro n
  cases n with
  |zero=>exact .cons hr ht
  |succ n=>exact .cons hr' (ih n)
theorem F2.qT {α β γ:Type}{r:α→β→Prop}{f:γ→α}{cs:List γ}{bs:List β}(h:F2 (fun c b=>r (f c) b) cs bs):F2 r (cs.map f) bs:=by
 induction h with
 |nil=>exact .nil
 |cons hr _ ih=>exact .cons hr ih
theorem F2.uM {α β γ:Type}{r:α→β→Prop}{f:γ→α}:∀ {cs:List γ} {bs:List β},F2 r (cs.map f) bs→F2 (fun c b=>r (f c) b) cs bs
 |[],_,h=>by cases h;exact .nil
 |_::_,_,h=>by cases h with|cons hr ht=>exact .cons hr (F2.uM ht)
theorem W7 (h:Nat→Option Obj):∀ (xs:List D) (us:List Value),jV h xs us↔F2 (VD h) xs us
 |[],us=>by
  simp only [jV]
  exact⟨fun e=>by subst e;exact .nil,fun e=>by cases e;rfl⟩
 |x::xs,us=>by
  simp only [jV]
  constructor
  ·rintro ⟨u,r,rfl,hu,hr⟩;exact .cons hu ((W7 h xs r).1 hr)
  ·intro e
   cases e with
   |cons hu hr=>exact⟨_,_,rfl,hu,(W7 h xs _).2 hr⟩
theorem tW {h h':Nat→Option Obj}(hh:∀ b x,h b=some x→h' b=some x){a:Addr}{v:Value}(e:dW h a=some v):dW h' a=some v:=by
 unfold dW at *
 cases hb:h a.block with
 |none=>simp [hb] at e
 |some x=>rw [hb] at e;rw [hh _ _ hb];exact e
mutual
theorem W2 {h h':Nat→Option Obj}(hh:∀ b x,h b=some x→h' b=some x):∀ (x:D) (v:Value),VD h x v→VD h' x v
 | .top,_,_=>trivial
 | .bool _,_,e=>e
 | .int _ _,_,e=>e
 | .str _,_,e=>e
 | .nils _ _,_,e=>e
 | .und,_,e=>e
 | .fn _,_,e=>e
 | .nilp,_,e=>e
 | .nilf,_,e=>e
 | .nilm,_,e=>e
 | .nili,_,e=>e
 | .ub,_,e=>e
 | .Z sz xs,v,e=>by
  obtain⟨A,cap,h1,h2,h3,h4⟩:=e
  refine⟨A,cap,h1,h2,h3,?_⟩
  rcases h4 with h4|⟨ad,ha,hr⟩
  ·exact .inl h4
  ·exact .inr ⟨ad,ha,kE hh sz xs ad hr⟩
 | .agg cs,v,e=>by
  obtain⟨us,h1,h2⟩:=e
  exact⟨us,h1,HR hh cs _ h2⟩
 | .iface t x,v,e=>by
  obtain⟨u,h1,h2⟩:=e
  exact⟨u,h1,W2 hh x u h2⟩
 | .meth t nm x,v,e=>by
  obtain⟨u,h1,h2⟩:=e
  exact⟨u,h1,W2 hh x u h2⟩
theorem HR {h h':Nat→Option Obj}(hh:∀ b x,h b=some x→h' b=some x):∀ (xs:List D) (us:List Value),jV h xs us→jV h' xs us
 |[],_,e=>e
 |x::xs,us,e=>by
  obtain⟨u,r,h1,h2,h3⟩:=e
  exact⟨u,r,h1,W2 hh x u h2,HR hh xs r h3⟩
theorem kE {h h':Nat→Option Obj}(hh:∀ b x,h b=some x→h' b=some x):∀ (sz:Nat) (xs:List D) (ad:Addr),HG h sz xs ad→HG h' sz xs ad
 |_,[],_,_=>trivial
 |sz,x::xs,ad,e=>by
  obtain⟨⟨v,h1,h2,h3,h4⟩,h5⟩:=e
  exact⟨⟨v,h1,fun j u hj=>tW hh (h2 j u hj),h3,W2 hh x v h4⟩,kE hh sz xs _ h5⟩
end
theorem eS {h h':Nat→Option Obj}(hh:∀ b x,h b=some x→h' b=some x):∀ (sz:Nat) (xs:List D) (us:List Value),aT h sz xs us→aT h' sz xs us
 |_,[],_,e=>e
 |sz,x::xs,us,e=>by
  obtain⟨v,r,h1,h2,h3,h4,h5⟩:=e
  exact⟨v,r,h1,h2,h3,W2 hh x v h4,eS hh sz xs r h5⟩
structure V7 (p:Nat→Prop) (g g':G):Prop where
 h:∀ b x,g.h b=some x→g'.h b=some x
 blk:∀ o,p o→g'.blk o=g.blk o
 hdr:∀ o,p o→g'.hdr o=g.hdr o
 ihdr:∀ o,p o→∀ i v,g.ihdr o i=some v→g'.ihdr o i=some v
structure I6 (p:Nat→Prop) (g g':G):Prop where
 h:∀ b x,g.h b=some x→g'.h b=some x
 blk:∀ o,p o→g'.blk o=g.blk o
 hdr:∀ o,p o→g'.hdr o=g.hdr o
 ihdr:∀ o,p o→g'.ihdr o=g.ihdr o
theorem I6.w {p:Nat→Prop}{g g':G}(a:I6 p g g'):V7 p g g':=⟨a.h,a.blk,a.hdr,fun o ho i v k=>by rw [a.ihdr o ho];exact k⟩
instance {p:Nat→Prop} {g g':G}:CoeOut (I6 p g g') (V7 p g g'):=⟨I6.w⟩
theorem I6.refl (p:Nat→Prop)(g:G):I6 p g g:=⟨fun _ _ h=>h,fun _ _=>rfl,fun _ _=>rfl,fun _ _=>rfl⟩
theorem VL.agree {p:Nat→Prop}{g g':G}(a:V7 p g g'):∀ {x:V} {v:Value},x.aS p→VL g x v→VL g' x v:=by
 intro x v hb e
 match x with
 | .d x=>exact W2 a.h _ _ e
 | .ptr o off=>simp only [VL] at *;rw [a.blk o hb];exact e
 | .el sz xs i off=>simp only [VL] at *;obtain⟨ad,h1,h2⟩:=e;exact⟨ad,kE a.h _ _ _ h1,h2⟩
 | .rp o sz i off=>simp only [VL] at *;rw [a.hdr o hb];exact e
 | .row o=>simp only [VL] at *;rw [a.hdr o hb];exact e
 | .sub o sz lo n=>simp only [VL] at *;rw [a.hdr o hb];exact e
 | .agg _=>exact e
 | .fn _ []=>exact e
 | .fn _ (_::_)=>exact e
 | .tup _=>exact e
 | .mp o=>simp only [VL] at *;rw [a.blk o hb];exact e
 | .bp _ o f=>simp only [VL] at *;rw [a.blk o hb];exact e
 | .ir o i=>exact⟨a.ihdr o hb i _ e.1,e.2.1,by rw [a.hdr o hb];exact e.2.2⟩
 | .irp o i sz j=>obtain⟨h0,hd,b,h1,h2⟩:=e;exact⟨by rw [a.hdr o hb];exact h0,hd,b,a.ihdr o hb i _ h1,h2⟩
theorem VA.agree {p:Nat→Prop}{g g':G}(a:V7 p g g'):∀ {x:V} {v:Value},x.K7 p→VA g x v→VA g' x v:=by
 intro x v hb e
 match x with
 | .agg cs=>obtain⟨us,h1,h2⟩:=e;exact⟨us,h1,h2.mono fun c hc b=>VL.agree a (hb c hc)⟩
 | .fn f (c::caps)=>obtain⟨us,h1,h2⟩:=e;exact⟨us,h1,h2.mono fun c hc b=>VL.agree a (hb c hc)⟩
 | .fn f []=>exact VL.agree (x:= .fn f []) a trivial e
 | .d x=>exact VL.agree (x:= .d x) a trivial e
 | .ptr o off=>exact VL.agree (x:= .ptr o off) a hb e
 | .el sz xs i off=>exact VL.agree (x:= .el sz xs i off) a trivial e
 | .rp o sz i off=>exact VL.agree (x:= .rp o sz i off) a hb e
 | .row o=>exact VL.agree (x:= .row o) a hb e
 | .sub o sz lo n=>exact VL.agree (x:= .sub o sz lo n) a hb e
 | .mp o=>exact VL.agree (x:= .mp o) a hb e
 | .bp t o f=>exact VL.agree (x:= .bp t o f) a hb e
 | .ir o i=>exact VL.agree (x:= .ir o i) a hb e
 | .irp o i sz j=>exact VL.agree (x:= .irp o i sz j) a hb e
 | .tup vs=>exact e
theorem VV.agree {p:Nat→Prop}{g g':G}(a:V7 p g g'):∀ {x:V} {v:Value},x.K5 p→VV g x v→VV g' x v:=by
 intro x v hb e
 match x with
 | .tup vs=>obtain⟨us,h1,h2⟩:=e;exact⟨us,h1,h2.mono fun c hc b=>VA.agree a (hb c hc)⟩
 | .agg cs=>exact VA.agree (x:= .agg cs) a hb e
 | .fn f caps=>cases caps with
  |nil=>exact VA.agree (x:= .fn f []) a hb e
  |cons c caps=>exact VA.agree (x:= .fn f (c::caps)) a hb e
 | .d x=>exact VA.agree (x:= .d x) a hb e
 | .ptr o off=>exact VA.agree (x:= .ptr o off) a hb e
 | .el sz xs i off=>exact VA.agree (x:= .el sz xs i off) a hb e
 | .rp o sz i off=>exact VA.agree (x:= .rp o sz i off) a hb e
 | .row o=>exact VA.agree (x:= .row o) a hb e
 | .sub o sz lo n=>exact VA.agree (x:= .sub o sz lo n) a hb e
 | .mp o=>exact VA.agree (x:= .mp o) a hb e
 | .bp t o f=>exact VA.agree (x:= .bp t o f) a hb e
 | .ir o i=>exact VA.agree (x:= .ir o i) a hb e
 | .irp o i sz j=>exact VA.agree (x:= .irp o i sz j) a hb e
theorem V.aS.mono {p q:Nat→Prop}(h:∀ o,p o→q o):∀ {x:V},x.aS p→x.aS q:=by
 intro x e
 match x with
 | .ptr o _=>exact h o e
 | .rp o _ _ _=>exact h o e
 | .row o=>exact h o e
 | .sub o _ _ _=>exact h o e
 | .mp o=>exact h o e
 | .bp _ o _=>exact h o e
 | .ir o _=>exact h o e
 | .irp o _ _ _=>exact h o e
 | .d _ | .el .. | .agg _ | .fn .. | .tup _=>trivial
theorem V.K7.mono {p q:Nat→Prop}(h:∀ o,p o→q o):∀ {x:V},x.K7 p→x.K7 q:=by
 intro x e
 match x with
 | .agg cs=>exact fun v hv=>V.aS.mono h (e v hv)
 | .fn _ caps=>exact fun v hv=>V.aS.mono h (e v hv)
 | .ptr o _=>exact h o e
 | .rp o _ _ _=>exact h o e
 | .row o=>exact h o e
 | .sub o _ _ _=>exact h o e
 | .mp o=>exact h o e
 | .bp _ o _=>exact h o e
 | .ir o _=>exact h o e
 | .irp o _ _ _=>exact h o e
 | .tup _=>exact e
 | .d _ | .el ..=>trivial
theorem V.K5.mono {p q:Nat→Prop}(h:∀ o,p o→q o):∀ {x:V},x.K5 p→x.K5 q:=by
 intro x e
 match x with
 | .tup vs=>exact fun v hv=>V.K7.mono h (e v hv)
 | .agg cs=>exact V.K7.mono (x:= .agg cs) h e
 | .fn f caps=>exact V.K7.mono (x:= .fn f caps) h e
 | .mp o=>exact h o e
 | .bp _ o _=>exact h o e
 | .ir o _=>exact h o e
 | .irp o _ _ _=>exact h o e
 | .ptr o _=>exact h o e
 | .rp o _ _ _=>exact h o e
 | .row o=>exact h o e
 | .sub o _ _ _=>exact h o e
 | .d _ | .el ..=>trivial
theorem Ob.K5.mono {p q:Nat→Prop}(h:∀ o,p o→q o){x:Ob}(e:x.K5 p):x.K5 q:=by
 match x with
 | .var cs=>exact fun v hv=>V.K7.mono h (e v hv)
 | .row ..=>trivial
 | .mp ..=>trivial
 | .nst ..=>trivial
 | .it _ mo _=>exact h mo e
theorem aK {u:Value}(h:u.oneCell'=true):u.cells=#[u]:=by cases u<;>first|rfl|(simp [Value.oneCell'] at h)
theorem W6 {g:G}{x:V}{v:Value}(h:VL g x v):VA g x v:=by
 match x with
 | .agg _=>exact h.elim
 | .fn f []=>exact h
 | .fn f (_::_)=>exact h.elim
 | .tup _=>exact h.elim
 | .d x=>exact h
 | .ptr o off=>exact h
 | .el sz xs i off=>exact h
 | .rp o sz i off=>exact h
 | .row o=>exact h
 | .sub o sz lo n=>exact h
 | .mp o=>exact h
 | .bp _ o f=>exact h
 | .ir ..=>exact h
 | .irp ..=>exact h
theorem P1 {g:G}{x:V}{v:Value}(h:VA g x v):VV g x v:=by
 match x with
 | .tup _=>exact h.elim
 | .agg _=>exact h
 | .fn f []=>exact h
 | .fn f (_::_)=>exact h
 | .d x=>exact h
 | .ptr o off=>exact h
 | .el sz xs i off=>exact h
 | .rp o sz i off=>exact h
 | .row o=>exact h
 | .sub o sz lo n=>exact h
 | .mp o=>exact h
 | .bp _ o f=>exact h
 | .ir ..=>exact h
 | .irp ..=>exact h
end Go.AE
namespace Go.AE
open Go.RowKit
theorem O3 (a:Addr)(i j:Nat):(a.add i).add j=a.add (i+j):=by
 unfold Addr.add
 by_cases hi:i=0<;>by_cases hj:j=0<;>simp [hi,hj,Nat.add_assoc]
theorem H8 (b o i:Nat):(⟨b,o,none⟩:Addr).add i=⟨b,o+i,none⟩:=by unfold Addr.add;split<;>simp_all
theorem gT {h:Nat→Option Obj}{sz:Nat}:∀ {xs:List D} {ad:Addr},HG h sz xs ad→
  ∃ us,aT h sz xs us∧∀ j u,us[j]? = some u→dW h (ad.add j)=some u
 |[],_,_=>⟨[],rfl,fun j u hj=>by simp at hj⟩
 |x::xs,ad,e=>by
  obtain⟨⟨v,h1,h2,h3,h4⟩,h5⟩:=e
  obtain⟨us,k1,k2⟩:=gT h5
  refine⟨v.cells.toList++us,⟨v,us,rfl,h1,h3,h4,k1⟩,fun j u hj=>?_⟩
  rw [List.getElem?_append] at hj
  split at hj
  ·exact h2 j u (by simpa using hj)
  ·rename_i hlt
   have hsz:v.cells.toList.length=sz:=by simpa using h1
   have:=k2 _ u hj
   rw [O3] at this
   rw [show sz+(j-v.cells.toList.length)=j from by omega] at this
   exact this
theorem aJ {h h':Nat→Option Obj}(hh:∀ b x,h b=some x→h' b=some x){sz:Nat}:∀ {xs:List D} {ad:Addr} {us:List Value},aT h sz xs us→
  (∀ j u,us[j]? = some u→dW h' (ad.add j)=some u)→HG h' sz xs ad
 |[],_,_,_,_=>trivial
 |x::xs,ad,us,e,k=>by
  obtain⟨v,r,rfl,h1,h3,h4,h5⟩:=e
  have hsz:v.cells.toList.length=sz:=by simpa using h1
  refine⟨⟨v,h1,fun j u hj=>k j u ?_,h3,W2 hh x v h4⟩,aJ hh h5 fun j u hj=>?_⟩
  ·have hjl:j<v.cells.toList.length:=by
    rcases Nat.lt_or_ge j v.cells.size with hl|hl
    ·simpa using hl
    ·rw [Array.getElem?_eq_none hl] at hj;cases hj
   rw [List.getElem?_append_left hjl]
   simpa using hj
  ·rw [O3]
   refine k (sz+j) u ?_
   rw [F5 (by omega),hsz,Nat.add_sub_cancel_left]
   exact hj
theorem U2 {h:Nat→Option Obj}{sz:Nat}:∀ {xs:List D} {us:List Value},aT h sz xs us→us.length=xs.length*sz
 |[],_,e=>by subst e;simp
 |x::xs,us,e=>by
  obtain⟨v,r,rfl,h1,_,_,h5⟩:=e
  have:=U2 h5
  simp [h1,this,Nat.add_mul,Nat.add_comm]
theorem lJ {h:Nat→Option Obj}{sz:Nat}:∀ {xs:List D} {us:List Value},aT h sz xs us→∀ u∈us,u.oneCell'=true
 |[],_,e=>by subst e;simp
 |x::xs,us,e=>by
  obtain⟨v,r,rfl,_,h3,_,h5⟩:=e
  intro u hu
  rcases D5.1 hu with hu|hu
  ·exact h3 u hu
  ·exact lJ h5 u hu
theorem bY {h:Nat→Option Obj}{sz:Nat}:∀ {xs ys:List D} {us vs:List Value},aT h sz xs us→aT h sz ys vs→aT h sz (xs++ys) (us++vs)
 |[],_,_,_,e,k=>by subst e;exact k
 |x::xs,ys,us,vs,e,k=>by
  obtain⟨v,r,rfl,h1,h3,h4,h5⟩:=e
  exact⟨v,r++vs,by simp,h1,h3,h4,bY h5 k⟩
theorem eR {h:Nat→Option Obj}{sz:Nat}:∀ {xs:List D} {us:List Value} (n:Nat),aT h sz xs us→aT h sz (xs.drop n) (us.drop (n*sz))
 |[],us,n,e=>by subst e;simp [aT]
 |x::xs,us,0,e=>by simpa using e
 |x::xs,us,n+1,e=>by
  obtain⟨v,r,rfl,h1,h3,h4,h5⟩:=e
  have hsz:v.cells.toList.length=sz:=by simpa using h1
  have:=eR n h5
  have e1:(v.cells.toList++r).drop ((n+1)*sz)=r.drop (n*sz):=by
   rw [List.drop_append,hsz,D6 (by rw [hsz,Nat.add_mul];omega),List.nil_append,show (n+1)*sz-sz=n*sz from by rw [Nat.add_mul];omega]
  rw [e1]
  simpa using this
theorem cV {h:Nat→Option Obj}{sz:Nat}:∀ {xs:List D} {us:List Value} (n:Nat),aT h sz xs us→aT h sz (xs.take n) (us.take (n*sz))
 |[],us,n,e=>by subst e;simp [aT]
 |x::xs,us,0,e=>by simp [aT]
 |x::xs,us,n+1,e=>by
  obtain⟨v,r,rfl,h1,h3,h4,h5⟩:=e
  have hsz:v.cells.toList.length=sz:=by simpa using h1
  have:=cV n h5
  refine⟨v,r.take (n*sz),?_,h1,h3,h4,this⟩
  rw [List.take_append,hsz,List.take_of_length_le (by rw [hsz,Nat.add_mul];omega),show (n+1)*sz-sz=n*sz from by rw [Nat.add_mul];omega]
theorem vD {h:Nat→Option Obj}{sz:Nat}:∀ {xs:List D} {us:List Value} {i:Nat} {x:D},aT h sz xs us→xs[i]? = some x→
  ∃ v:Value,v.cells.size=sz∧(∀ j u,v.cells[j]? = some u→us[i*sz+j]? = some u)∧(∀ u∈v.cells.toList,u.oneCell'=true)∧VD h x v
 |[],_,i,x,_,hx=>by simp at hx
 |y::xs,us,0,x,e,hx=>by
  obtain⟨v,r,rfl,h1,h3,h4,h5⟩:=e
  simp at hx;subst hx
  refine⟨v,h1,fun j u hj=>?_,h3,h4⟩
  have hjl:j<v.cells.size:=by
   rcases Nat.lt_or_ge j v.cells.size with hl|hl
   ·exact hl
   ·rw [Array.getElem?_eq_none hl] at hj;cases hj
  rw [List.getElem?_append_left (by simpa using (by omega:0*sz+j<v.cells.size))]
  simpa using hj
 |y::xs,us,i+1,x,e,hx=>by
  obtain⟨v,r,rfl,h1,h3,h4,h5⟩:=e
  obtain⟨v',k1,k2,k3,k4⟩:=vD (i:=i) h5 (by simpa using hx)
  have hsz:v.cells.toList.length=sz:=by simpa using h1
  refine⟨v',k1,fun j u hj=>?_,k3,k4⟩
  rw [F5 (by rw [hsz,Nat.add_mul];omega),hsz,show (i+1)*sz+j-sz=i*sz+j from by rw [Nat.add_mul];omega]
  exact k2 j u hj
def TK (w:World)(h:Nat→Option Obj)(sz:Nat)(xs:List D)(v:Value):Prop:=
 ∃ A cap us,v = .slice A xs.length cap∧xs.length≤cap∧cap≤maxLen∧aT h sz xs us∧(xs=[]∨∃ ad,A=some ad∧∀ j u,us[j]? = some u→w.cell? (ad.add j)=some u)
theorem eY {w:World}{h:Nat→Option Obj}(hf:∀ b x,h b=some x→w.heap[b]? = some x){a:Addr}{v:Value}(e:dW h a=some v):w.cell? a=some v:=by
 unfold dW at e
 unfold World.cell?
 cases hb:h a.block with
 |none=>simp [hb] at e
 |some x=>rw [hb] at e;rw [hf _ _ hb];exact e
theorem uI {w:World}{h:Nat→Option Obj}(hf:∀ b x,h b=some x→w.heap[b]? = some x){sz:Nat}{xs:List D}{v:Value}(e:VD h (.Z sz xs) v):TK w h sz xs v:=by
 obtain⟨A,cap,h1,h2,h3,h4⟩:=e
 rcases h4 with rfl|⟨ad,ha,hr⟩
 ·exact⟨A,cap,[],h1,h2,h3,rfl,.inl rfl⟩
 ·obtain⟨us,k1,k2⟩:=gT hr
  exact⟨A,cap,us,h1,h2,h3,k1,.inr ⟨ad,ha,fun j u hj=>eY hf (k2 j u hj)⟩⟩
theorem J0 {w:World}{base e sz n:Nat}{v:Value}{us:List Value}(h:w.ownsRow base e sz v n us) :
  (v = .slice none 0 0∧n=0∧us=[])∨∃ b cap cur,v = .slice (some ⟨b,0,none⟩) n cap∧w.heap[b]? = some (.cells cur e (0,0))∧n≤cap∧cap≤maxLen∧cur.size=cap*sz∧cur.toList.take (n*sz)=us∧us.length=n*sz:=by
 obtain⟨hl,h⟩:=h
 rcases h with ⟨h1,h2⟩|⟨b,cap,cur,h1,_,h3,h4,h5,h6,h7⟩
 ·subst h2;exact .inl ⟨h1,rfl,D3 (by simpa using hl)⟩
 ·exact .inr ⟨b,cap,cur,h1,h3,h4,h5,h6,h7,hl⟩
theorem sV {w:World}{b n sz:Nat}{e:TypeId}{cur:Array Value}{us:List Value}(hb:w.heap[b]? = some (.cells cur e (0,0)))(ht:cur.toList.take (n*sz)=us) :
  ∀ j u,us[j]? = some u→w.cell? ((⟨b,0,none⟩:Addr).add j)=some u:=by
 intro j u hj
 rw [H8,C5,cell_of_row w b j cur e (0,0) hb]
 rw [← ht,List.getElem?_take] at hj
 split at hj
 ·simpa using hj
 ·cases hj
theorem uJ {w:World}{h:Nat→Option Obj}{e sz:Nat}{xs:List D}{v:Value}{us:List Value}(ho:w.ownsRow 0 e sz v xs.length us)(hf:aT h sz xs us):TK w h sz xs v:=by
 rcases J0 ho with ⟨rfl,h2,rfl⟩|⟨b,cap,cur,rfl,h3,h4,h5,_,h7,_⟩
 ·have:xs=[]:=D3 h2
  subst this
  exact⟨none,0,[],rfl,B9 _,C4 _,rfl,.inl rfl⟩
 ·exact⟨some ⟨b,0,none⟩,cap,us,rfl,h4,h5,hf,.inr ⟨_,rfl,sV h3 h7⟩⟩
section
variable {u:Nat→Option Obj} {p:Nat→Prop} {g:G} {h:Nat→Option Ob} {w:World}
theorem gE {o e sz:Nat}{xs:List D}{fz:Bool}(hob:OB g o (.row e sz xs fz) w):X4 (g.hdr o)=xs.length:=by
 cases fz with
 |false=>
  obtain⟨us,_,ho,_⟩:=hob
  rcases J0 ho with ⟨h1,h2,_⟩|⟨b,cap,cur,h1,_⟩
  ·rw [h1,h2];rfl
  ·rw [h1];rfl
 |true=>
  rcases hob with ⟨h1,h2⟩|⟨b,cap,h1,_⟩
  ·rw [h1,h2];rfl
  ·rw [h1];rfl
theorem rC (hs:J2 u p g h w){o e sz:Nat}{xs:List D}{fz:Bool}(ho:h o=some (.row e sz xs fz)):TK w g.h sz xs (g.hdr o):=by
 have hob:=hs.ob _ _ ho
 cases fz with
 |false=>
  obtain⟨us,_,h1,h2⟩:=hob
  exact uJ h1 h2
 |true=>
  rcases hob with ⟨h1,h2⟩|⟨b,cap,h1,h2,h3,h4⟩
  ·subst h2;rw [h1];exact⟨none,0,[],rfl,B9 _,C4 _,rfl,.inl rfl⟩
  ·exact uI hs.frz ⟨some ⟨b,0,none⟩,cap,h1,h2,h3,.inr ⟨_,rfl,h4⟩⟩
theorem DA (hs:J2 u p g h w){o e sz:Nat}{xs:List D}{fz:Bool}(ho:h o=some (.row e sz xs fz)){b:Nat}(hb:(g.hdr o).ownBlock=some b) :
  ∃ us,aT g.h sz xs us∧∀ j v,us[j]? = some v→w.cell? ⟨b,j,none⟩=some v:=by
 obtain⟨A,cap,us,h1,h2,h3,h4,h5⟩:=rC hs ho
 refine⟨us,h4,fun j v hj=>?_⟩
 rcases h5 with rfl|⟨ad,rfl,h6⟩
 ·have:=U2 h4;simp at this;subst this;simp at hj
 ·have hob:=hs.ob _ _ ho
  have hform:g.hdr o = .slice none 0 0∨∃ b cap,g.hdr o = .slice (some ⟨b,0,none⟩) xs.length cap:=by
   cases fz with
   |false=>
    obtain⟨us,_,k1,_⟩:=hob
    rcases J0 k1 with ⟨k,_,_⟩|⟨b,cap,cur,k,_⟩
    ·exact .inl k
    ·exact .inr ⟨b,cap,k⟩
   |true=>
    rcases hob with ⟨k,_⟩|⟨b,cap,k,_⟩
    ·exact .inl k
    ·exact .inr ⟨b,cap,k⟩
  rcases hform with k|⟨b',cap',k⟩
  ·rw [h1] at k;cases k
  ·rw [k] at hb h1
   simp only [Value.ownBlock,B1] at hb
   subst hb
   have:ad=⟨b',0,none⟩:=by simpa using (by injection h1 with h1;exact h1.symm:some ad=some _)
   subst this
   have:=h6 j v hj
   rwa [H8,C5] at this
theorem yK {o i sz:Nat}{ys:List D}(e:inner h o i=some (sz,ys)):∃ f ie xs,h o=some (.nst f ie sz xs)∧ys=(xs[i]?.getD .top).l:=by
 unfold inner at e
 split at e
 ·rename_i f ie sz' xs ho
  simp only [B1,C7] at e
  obtain⟨rfl,rfl⟩:=e
  exact⟨f,ie,xs,ho,rfl⟩
 ·cases e
theorem PO {base e sz n:Nat}{v:Value}{us:List Value}(h:w.ownsRow base e sz v n us):X4 v=n:=by
 rcases J0 h with ⟨h1,h2,_⟩|⟨b,cap,cur,h1,_⟩
 ·rw [h1,h2];rfl
 ·rw [h1];rfl
theorem XJ {base e sz n b:Nat}{v:Value}{us:List Value}(h:w.ownsRow base e sz v n us)(hb:v.ownBlock=some b):∀ j u,us[j]? = some u→w.cell? ⟨b,j,none⟩=some u:=by
 rcases J0 h with ⟨h1,_⟩|⟨b',cap,cur,h1,h3,_,_,_,h7,_⟩
 ·rw [h1] at hb;cases hb
 ·rw [h1] at hb
  simp only [Value.ownBlock,B1] at hb
  subst hb
  intro j u hj
  have:=sV h3 h7 j u hj
  rwa [H8,C5] at this
theorem FQ (hs:J2 u p g h w){o e ie sz:Nat}{xs:List D}(ho:h o=some (.nst e ie sz xs)):X4 (g.hdr o)=xs.length:=by
 obtain⟨_,⟨us,h1,_⟩,_⟩:=hs.ob _ _ ho
 exact PO h1
theorem WQ (hs:J2 u p g h w){o e ie sz b i:Nat}{xs:List D}(ho:h o=some (.nst e ie sz xs))(hb:(g.hdr o).ownBlock=some b)(hi:i<xs.length) :
  ∃ x v,xs[i]? = some x∧w.cell? ⟨b,i,none⟩=some v∧NE g o ie sz w i x v:=by
 obtain⟨_,⟨us,h1,hN⟩,_⟩:=hs.ob _ _ ho
 obtain⟨v,hv,k⟩:=hN i _ (C2 hi)
 exact⟨_,v,C2 hi,XJ h1 hb i v hv,k⟩
theorem eM (hs:J2 u p g h w){o i sz:Nat}{ys:List D}(e:inner h o i=some (sz,ys))(hi:i<X4 (g.hdr o)){v:Value}(hv:g.ihdr o i=some v) :
  ∃ f ie xs vs,h o=some (.nst f ie sz xs)∧xs[i]? = some (.Z sz ys)∧0<sz∧ys≠[]∧v.oneCell'=true∧w.ownsRow 0 ie sz v ys.length vs∧aT g.h sz ys vs:=by
 obtain⟨f,ie,xs,ho,rfl⟩:=yK e
 rw [FQ hs ho] at hi
 have hx:=C2 hi
 obtain⟨h0,⟨us,_,hN⟩,_⟩:=hs.ob _ _ ho
 obtain⟨u,_,k⟩:=hN i _ hx
 rcases k with ⟨a,b,_,_,k⟩|⟨ys',vs,k1,k2,k3,k4,k5,k6⟩
 ·rw [hv] at k;cases k
 ·rw [hv] at k3
  cases k3
  rw [k1] at hx
  rw [hx]
  exact⟨f,ie,xs,vs,ho,hx,h0,k2,k4,k5,k6⟩
theorem iV (hs:J2 u p g h w){x:V}{v:Value}(hv:VV g x v){sz:Nat}{xs:List D}(hl:yR h x=some (sz,xs)):TK w g.h sz xs v:=by
 unfold yR at hl
 split at hl
 ·simp only [B1,C7] at hl
  obtain⟨rfl,rfl⟩:=hl
  exact uI hs.frz hv
 ·simp only [B1,C7] at hl
  obtain⟨rfl,rfl⟩:=hl
  have hv:v = .slice none 0 0:=hv
  subst hv
  exact⟨none,0,[],rfl,B9 _,C4 _,rfl,.inl rfl⟩
 ·split at hl
  ·rename_i ho
   simp only [B1,C7] at hl
   obtain⟨rfl,rfl⟩:=hl
   have hv:v=g.hdr _:=hv.1
   subst hv
   exact rC hs ho
  ·cases hl
 ·split at hl
  ·rename_i o z lo n _ _ sz' xs' fz ho
   cases hz:Nat.beq z sz' with
   |false=>rw [hz] at hl;cases hl
   |true=>
    rw [hz] at hl
    simp only [cond_true,B1,C7] at hl
    obtain⟨rfl,rfl⟩:=hl
    have hz:z=sz':=B0 hz
    subst hz
    obtain⟨hlen,A,cap,rfl,hn,hcm,hA⟩:=(hv:VL g (.sub o z lo n) v)
    rw [gE (hs.ob _ _ ho)] at hlen
    have hlen':((xs'.drop lo).take n).length=n:=by simp;omega
    obtain⟨A',cap',us,h1,h2,h3,h4,h5⟩:=rC hs ho
    refine⟨A,cap,(us.drop (lo*z)).take (n*z),by rw [hlen'],by omega,hcm,cV n (eR lo h4),?_⟩
    rcases hA with rfl|⟨b,hb,rfl⟩
    ·left;simp
    ·right
     refine⟨_,rfl,fun j v hj=>?_⟩
     obtain⟨us',k1,k2⟩:=DA hs ho hb
     obtain⟨_,_,_,_,_,_,_,_⟩:=rC hs ho
     rw [List.getElem?_take] at hj
     split at hj
     ·rw [List.getElem?_drop] at hj
      rw [H8]
      have hq:∀ j v,us[j]? = some v→w.cell? ⟨b,j,none⟩=some v:=by
       intro j v hj
       rcases h5 with rfl|⟨ad,rfl,h6⟩
       ·have:=U2 h4;simp at this;subst this;simp at hj
       ·have hob:=hs.ob _ _ ho
        have hform:g.hdr o = .slice none 0 0∨∃ b cap,g.hdr o = .slice (some ⟨b,0,none⟩) xs'.length cap:=by
         cases fz with
         |false=>
          obtain⟨us,_,k1,_⟩:=hob
          rcases J0 k1 with ⟨k,_,_⟩|⟨b,cap,cur,k,_⟩
          ·exact .inl k
          ·exact .inr ⟨b,cap,k⟩
         |true=>
          rcases hob with ⟨k,_⟩|⟨b,cap,k,_⟩
          ·exact .inl k
          ·exact .inr ⟨b,cap,k⟩
        rcases hform with k|⟨b',cap',k⟩
        ·rw [h1] at k;cases k
        ·rw [k] at hb h1
         simp only [Value.ownBlock,B1] at hb
         subst hb
         have:ad=⟨b',0,none⟩:=by simpa using (by injection h1 with h1;exact h1.symm:some ad=some _)
         subst this
         have:=h6 j v hj
         rwa [H8,C5] at this
      exact hq _ _ hj
     ·cases hj
  ·cases hl
 ·rename_i o i
  obtain⟨f,ie,xs',vs,_,_,_,_,_,h1,h2⟩:=eM hs hl (hv:VL g (.ir o i) v).2.2 (hv:VL g (.ir o i) v).1
  exact uJ h1 h2
 ·cases hl
end
end Go.AE
namespace Go.AE
open Go.RowKit
theorem cN {w w':World}{base e sz n:Nat}{v:Value}{us:List Value}(hb:∀ b,v.ownBlock=some b→w'.heap[b]? = w.heap[b]?)(h:w.ownsRow base e sz v n us):w'.ownsRow base e sz v n us:=by
 obtain⟨hl,h⟩:=h
 refine⟨hl,?_⟩
 rcases h with h|⟨b,cap,cur,h1,h2,h3,r⟩
 ·exact .inl h
 ·exact .inr ⟨b,cap,cur,h1,h2,by rw [hb b (by rw [h1];rfl)];exact h3,r⟩
theorem Z8 {w:World}{b:Nat}{x:Obj}(h:w.heap[b]? = some x):b<w.heap.size:=(Array.getElem?_eq_some_iff.1 h).1
section
variable {u:Nat→Option Obj} {p q:Nat→Prop} {g g':G} {h h':Nat→Option Ob} {w w':World}
theorem XK {base e sz n b:Nat}{v:Value}{us:List Value}(h:w.ownsRow base e sz v n us)(hb:v.ownBlock=some b):b<w.heap.size:=by
 rcases J0 h with ⟨h1,_⟩|⟨b',cap,cur,h1,h3,_⟩
 ·simp only [h1,Value.ownBlock] at hb;cases hb
 ·simp only [h1,Value.ownBlock,B1] at hb
  subst hb
  exact Z8 h3
theorem FT {o:Nat}{x:Ob}{b:Nat}(hob:OB g o x w)(hb:S9 g o x b):b<w.heap.size:=by
 match x with
 | .var cs=>
  obtain⟨c,e,h1,_⟩:=hob
  simp only [S9] at hb
  subst hb
  exact Z8 h1
 | .row e sz xs false=>
  obtain⟨us,_,ho,_⟩:=hob
  rcases J0 ho with ⟨h1,_⟩|⟨b',cap,cur,h1,h3,_⟩
  ·simp only [S9,h1,Value.ownBlock] at hb;cases hb
  ·simp only [S9,h1,Value.ownBlock,B1] at hb
   subst hb
   exact Z8 h3
 | .row e sz xs true=>simp [S9] at hb
 | .mp kt xs=>
  obtain⟨es,clock,h1,_⟩:=hob
  simp only [S9] at hb
  subst hb
  exact Z8 h1
 | .it t mo xs=>
  obtain⟨n,ns,_,h1⟩:=hob
  simp only [S9] at hb
  subst hb
  exact Z8 h1
 | .nst e ie sz xs=>
  obtain⟨_,⟨us,ho,hN⟩,_⟩:=hob
  rcases hb with hb|⟨i,v,hi,hv,hb⟩
  ·exact XK ho hb
  ·obtain⟨u,_,k⟩:=hN i _ (C2 hi)
   rcases k with ⟨_,_,_,_,k⟩|⟨ys,vs,_,_,k3,_,k5,_⟩
   ·rw [hv] at k;cases k
   ·rw [hv] at k3;cases k3
    exact XK k5 hb
theorem OB.keep {o:Nat}{x:Ob}(hob:OB g o x w)(ha:V7 p g g')(hp:p o)(hx:x.K5 p)(hb:∀ b,S9 g o x b→w'.heap[b]? = w.heap[b]?)(hi:∀ i,g'.ihdr o i=g.ihdr o i:=by intro _;rfl):OB g' o x w':=by
 match x with
 | .var cs=>
  obtain⟨c,e,h1,h2,h3⟩:=hob
  refine⟨c,e,?_,h2.mono fun c hc b=>VA.agree ha (hx c hc),h3⟩
  rw [ha.blk o hp,hb _ rfl];exact h1
 | .row e sz xs false=>
  obtain⟨us,h0,h1,h2⟩:=hob
  refine⟨us,h0,?_,eS ha.h _ _ _ h2⟩
  rw [ha.hdr o hp]
  exact cN (fun b k=>hb b k) h1
 | .row e sz xs true=>
  have e1:=ha.hdr o hp
  rcases hob with ⟨h1,h2⟩|⟨b,cap,h1,h2,h3,h4⟩
  ·exact .inl ⟨by rw [e1];exact h1,h2⟩
  ·exact .inr ⟨b,cap,by rw [e1];exact h1,h2,h3,kE ha.h _ _ _ h4⟩
 | .mp kt xs=>
  obtain⟨es,clock,h1,h2,h3⟩:=hob
  exact⟨es,clock,by rw [ha.blk o hp,hb _ rfl];exact h1,h2.mono fun c _ b k=>⟨W2 ha.h _ _ k.1,W2 ha.h _ _ k.2.1,k.2.2⟩,h3⟩
 | .it t mo xs=>
  obtain⟨n,ns,h0,h1⟩:=hob
  exact⟨n,ns,h0,by rw [ha.blk o hp,ha.blk mo hx,hb _ rfl];exact h1⟩
 | .nst e ie sz xs=>
  obtain⟨h0,⟨us,h1,hN⟩,hD⟩:=hob
  refine⟨h0,⟨us,?_,fun j x hx=>?_⟩,?_⟩
  ·rw [ha.hdr o hp]
   exact cN (fun b k=>hb b (.inl k)) h1
  ·obtain⟨u,hu,k⟩:=hN j x hx
   have hj:j<xs.length:=(List.getElem?_eq_some_iff.1 hx).1
   refine⟨u,hu,?_⟩
   rcases k with ⟨a,b,k1,k2,k3⟩|⟨ys,vs,k1,k2,k3,k4,k5,k6⟩
   ·exact .inl ⟨a,b,k1,k2,by rw [hi];exact k3⟩
   ·exact .inr ⟨ys,vs,k1,k2,by rw [hi];exact k3,k4,cN (fun b k=>hb b (.inr ⟨j,u,hj,k3,k⟩)) k5,eS ha.h _ _ _ k6⟩
  ·simpa only [ha.hdr o hp,hi] using hD
theorem Q8 {o:Nat}{x:Ob}(ha:V7 p g g')(hp:p o)(hi:∀ i,g'.ihdr o i=g.ihdr o i:=by intro _;rfl):S9 g' o x=S9 g o x:=by
 match x with
 | .var cs=>exact funext fun b=>by simp only [S9,ha.blk o hp]
 | .row e sz xs false=>exact funext fun b=>by simp only [S9,ha.hdr o hp]
 | .row e sz xs true=>rfl
 | .mp kt xs=>exact funext fun b=>by simp only [S9,ha.blk o hp]
 | .it t mo xs=>exact funext fun b=>by simp only [S9,ha.blk o hp]
 | .nst ..=>exact funext fun b=>by simp only [S9,ha.hdr o hp,hi]
theorem J2.VG (hs:J2 u p g h w){b:Nat}(hb:w.heap.size≤b):g.h b=none∧u b=none:=by
 constructor
 ·cases e:g.h b with
  |none=>rfl
  |some x=>have:=Z8 (hs.frz b x e);omega
 ·cases e:u b with
  |none=>rfl
  |some x=>have:=Z8 (hs.unt b x e);omega
theorem J2.wB (hs:J2 u p g h w)(ha:V7 p g g')(hgh:g'.h=g.h)(B:Nat→Prop)
  (hw:∀ k,k<w.heap.size→¬ B k→w'.heap[k]? = w.heap[k]?)
  (hrow:∀ b,B b→g.h b=none∧u b=none) (hpq:∀ x,p x→q x) (o:Nat)
  (hoth:∀ o' x,h' o'=some x→o'≠o→h o'=some x∧∀ b,S9 g o' x b→¬ B b)
  (ho:∀ x,h' o=some x→OB g' o x w'∧(∀ b,S9 g' o x b→B b∨w.heap.size≤b)∧q o∧x.K5 q) (hi:∀ o',o'≠o→∀ i,g'.ihdr o' i=g.ihdr o' i:=by intro _ _ _;rfl):J2 u q g' h' w':=by
 have keepb:∀ o' x,h' o'=some x→o'≠o→∀ b,S9 g o' x b→w'.heap[b]? = w.heap[b]?:=by
  intro o' x hx hne b hb
  obtain⟨h1,h2⟩:=hoth o' x hx hne
  exact hw b (FT (hs.ob _ _ h1) hb) (h2 b hb)
 have hnew:∀ b,(B b∨w.heap.size≤b)→g.h b=none∧u b=none:=by
  intro b hb
  rcases hb with hb|hb
  ·exact hrow b hb
  ·exact hs.VG hb
 refine⟨?_,?_,?_,?_,?_,?_,fun b=>by rw [hgh];exact hs.dj b⟩
 ·intro b x hx
  rw [hgh] at hx
  have h1:=hs.frz b x hx
  rw [hw b (Z8 h1) ?_]
  ·exact h1
  ·intro e
   have:=(hrow b e).1
   rw [hx] at this;cases this
 ·intro b x hx
  have h1:=hs.unt b x hx
  rw [hw b (Z8 h1) ?_]
  ·exact h1
  ·intro e
   have:=(hrow b e).2
   rw [hx] at this;cases this
 ·intro o' x hx
  by_cases e:o'=o
  ·subst e;exact (ho x hx).1
  ·obtain⟨h1,_⟩:=hoth o' x hx e
   exact (hs.ob _ _ h1).keep ha (hs.use _ _ h1).1 (hs.use _ _ h1).2 (keepb o' x hx e) (hi o' e)
 ·intro o' x b hx hb
  rw [hgh]
  by_cases e:o'=o
  ·subst e;exact hnew b ((ho x hx).2.1 b hb)
  ·obtain⟨h1,_⟩:=hoth o' x hx e
   rw [Q8 ha (hs.use _ _ h1).1 (hi o' e)] at hb
   exact hs.sep o' x b h1 hb
 ·intro o1 o2 x1 x2 b h1 h2 b1 b2
  by_cases e1:o1=o<;>by_cases e2:o2=o
  ·rw [e1,e2]
  ·subst e1
   obtain⟨k1,k2⟩:=hoth o2 x2 h2 e2
   rw [Q8 ha (hs.use _ _ k1).1 (hi o2 e2)] at b2
   rcases (ho x1 h1).2.1 b b1 with r|r
   ·exact absurd r (k2 b b2)
   ·have:=FT (hs.ob _ _ k1) b2;omega
  ·subst e2
   obtain⟨k1,k2⟩:=hoth o1 x1 h1 e1
   rw [Q8 ha (hs.use _ _ k1).1 (hi o1 e1)] at b1
   rcases (ho x2 h2).2.1 b b2 with r|r
   ·exact absurd r (k2 b b1)
   ·have:=FT (hs.ob _ _ k1) b1;omega
  ·obtain⟨k1,_⟩:=hoth o1 x1 h1 e1
   obtain⟨k2,_⟩:=hoth o2 x2 h2 e2
   rw [Q8 ha (hs.use _ _ k1).1 (hi o1 e1)] at b1
   rw [Q8 ha (hs.use _ _ k2).1 (hi o2 e2)] at b2
   exact hs.inj o1 o2 x1 x2 b k1 k2 b1 b2
 ·intro o' x hx
  by_cases e:o'=o
  ·subst e;exact (ho x hx).2.2
  ·obtain⟨h1,_⟩:=hoth o' x hx e
   exact⟨hpq _ (hs.use _ _ h1).1,(hs.use _ _ h1).2.mono hpq⟩
theorem J2.update (hs:J2 u p g h w)(ha:I6 p g g')(hgh:g'.h=g.h)(row:Option Nat)
  (hw:∀ k,k<w.heap.size→some k≠row→w'.heap[k]? = w.heap[k]?)
  (hrow:∀ b,row=some b→g.h b=none∧u b=none) (hpq:∀ x,p x→q x) (o:Nat)
  (hoth:∀ o' x,h' o'=some x→o'≠o→h o'=some x∧∀ b,S9 g o' x b→some b≠row)
  (ho:∀ x,h' o=some x→OB g' o x w'∧(∀ b,S9 g' o x b→some b=row∨w.heap.size≤b)∧q o∧x.K5 q) (hi:∀ o',o'≠o→∀ i,g'.ihdr o' i=g.ihdr o' i:=by intro _ _ _;rfl):J2 u q g' h' w':=
 hs.wB ha hgh (fun k=>some k=row) hw (fun b hb=>hrow b hb.symm) hpq o hoth ho hi
theorem J2.Fk (hs:J2 u p g h w)(hh:∀ o x,h' o=some x→h o=some x):J2 u p g h' w:=
 ⟨hs.frz,hs.unt,fun o x e=>hs.ob o x (hh o x e),fun o x b e=>hs.sep o x b (hh o x e),fun o o' x x' b e e'=>hs.inj o o' x x' b (hh o x e) (hh o' x' e'),fun o x e=>hs.use o x (hh o x e),hs.dj⟩
theorem J2.more (hs:J2 u p g h w)(hpq:∀ x,p x→q x):J2 u q g h w:=
 ⟨hs.frz,hs.unt,hs.ob,hs.sep,hs.inj,fun o x e=>⟨hpq _ (hs.use o x e).1,(hs.use o x e).2.mono hpq⟩,hs.dj⟩
theorem J2.same (hs:J2 u p g h w)(e:w'.heap=w.heap):J2 u p g h w':=
 ⟨fun b x k=>by rw [e];exact hs.frz b x k,fun b x k=>by rw [e];exact hs.unt b x k,
  fun o x k=>(hs.ob o x k).keep (I6.refl p g) (hs.use _ _ k).1 (hs.use _ _ k).2 fun b _=>by rw [e],hs.sep,hs.inj,hs.use,hs.dj⟩
def bA:Option Ob→Option Ob
 |some (.row e sz xs _)=>some (.row e sz xs true)
 |some (.nst e _ _ xs)=>some (.row e 1 xs true)
 |ob=>ob
theorem yF (x:Option Ob):bA (bA x)=bA x:=by
 match x with
 |none=>rfl
 |some (.var _)=>rfl
 |some (.row ..)=>rfl
 |some (.mp ..)=>rfl
 |some (.it ..)=>rfl
 |some (.nst ..)=>rfl
theorem fC:∀ (os:List Nat) (h:Nat→Option Ob) (x:Nat),K8 h os x=h x∨K8 h os x=bA (h x)
 |[],h,x=> .inl rfl
 |o::os,h,x=>by
  simp only [K8]
  cases e:Nat.beq x o with
  |true=>
   have e:x=o:=B0 e
   subst e
   right
   simp only [cond_true]
   match h x with
   |none=>rfl
   |some (.var _)=>rfl
   |some (.row ..)=>rfl
   |some (.mp ..)=>rfl
   |some (.it ..)=>rfl
   |some (.nst ..)=>rfl
  |false=>simpa using fC os h x
theorem iT (h:Nat→Option Ob)(o:Nat)(os:List Nat)(x:Nat):K8 h (o::os) x=if x=o then bA (K8 h os o) else K8 h os x:=by
 simp only [K8]
 by_cases e:x=o
 ·subst e
  simp only [Nat.beq_refl,cond_true,if_true]
  have:bA (K8 h os x)=bA (h x):=by
   rcases fC os h x with k|k
   ·rw [k]
   ·rw [k,yF]
  rw [this]
  match h x with
  |none=>rfl
  |some (.var _)=>rfl
  |some (.row ..)=>rfl
  |some (.mp ..)=>rfl
  |some (.it ..)=>rfl
  |some (.nst ..)=>rfl
 ·have:Nat.beq x o=false:=by
   cases k:Nat.beq x o with
   |false=>rfl
   |true=>exact absurd (B0 k) e
  simp [this,e]
theorem gD:∀ (os:List Nat) (h:Nat→Option Ob) (o:Nat),o∈os→K8 h os o=bA (h o)
 |o'::os,h,o,hm=>by
  rw [iT]
  by_cases e:o=o'
  ·subst e
   rw [if_pos rfl]
   rcases fC os h o with k|k
   ·rw [k]
   ·rw [k,yF]
  ·rw [if_neg e]
   exact gD os h o (by simpa [e] using hm)
theorem aN:∀ (os:List Nat) (h:Nat→Option Ob) (o:Nat),o∉os→K8 h os o=h o
 |[],_,_,_=>rfl
 |o'::os,h,o,hm=>by
  rw [iT,if_neg (by intro e;subst e;simp at hm)]
  exact aN os h o (by intro k;exact hm (by simp [k]))
theorem wG {h:Nat→Option Obj}:∀ {xs:List D} {us:List Value},us.length=xs.length→(∀ (j:Nat) x,xs[j]? = some x→∃ u:Value,us[j]? = some u∧u.oneCell'=true∧VD h x u)→aT h 1 xs us
 |[],us,hl,_=>D3 hl
 |x::xs,us,hl,hk=>by
  cases us with
  |nil=>simp at hl
  |cons u us=>
   obtain⟨u',h1,h2,h3⟩:=hk 0 x rfl
   simp only [List.getElem?_cons_zero,B1] at h1
   subst h1
   refine⟨u,us,by rw [aK h2];rfl,by rw [aK h2];rfl,by rw [aK h2];simpa using h2,h3,wG (by simpa using hl) fun j y hy=>?_⟩
   simpa using hk (j+1) y (by simpa using hy)
def HM (h:Nat→Option Ob)(os:List Nat)(g g':G):Prop:=∀ o∈os,∀ i sz ys v,inner h o i=some (sz,ys)→i<X4 (g.hdr o)→g.ihdr o i=some v→VD g'.h (.Z sz ys) v
theorem FB {gh:Nat→Option Obj}(hsub:∀ b x,g.h b=some x→gh b=some x){e sz:Nat}{xs:List D}{v:Value}{us:List Value}(h1:w.ownsRow 0 e sz v xs.length us)(h2:aT gh sz xs us)(hb:∀ b,v.ownBlock=some b→gh b=w.heap[b]?) :
  (v = .slice none 0 0∧xs=[])∨∃ b cap,v = .slice (some ⟨b,0,none⟩) xs.length cap∧xs.length≤cap∧cap≤maxLen∧HG gh sz xs ⟨b,0,none⟩:=by
 rcases J0 h1 with ⟨k1,k2,_⟩|⟨b,cap,cur,k1,k3,k4,k5,k6,k7,_⟩
 ·exact .inl ⟨k1,D3 k2⟩
 ·refine .inr ⟨b,cap,k1,k4,k5,aJ (fun _ _ k=>k) h2 fun j v hj=>?_⟩
  have hg:gh b=some (.cells cur e (0,0)):=by rw [hb b (by rw [k1];rfl)];exact k3
  rw [H8,C5]
  simp only [dW,hg]
  have:=sV k3 k7 j v hj
  rw [H8,C5,cell_of_row w b j cur e (0,0) k3] at this
  simpa using this
theorem J2.Ap (hs:J2 u p g h w)(o:Nat):∃ g':G,I6 p g g'∧g'.blk=g.blk∧g'.hdr=g.hdr∧J2 u p g' (fun x=>if x=o then bA (h o) else h x) w∧g'.ihdr=g.ihdr∧
  ∀ i sz ys v,inner h o i=some (sz,ys)→i<X4 (g.hdr o)→g.ihdr o i=some v→VD g'.h (.Z sz ys) v:=by
 by_cases hu:∃ x e sz xs,h o=some x∧bA (some x)=some (.row e sz xs true)∧x≠ .row e sz xs true
 ·obtain⟨x0,e,sz,xs,ho,hfz,hx0⟩:=hu
  have hob:=hs.ob _ _ ho
  let gh:Nat→Option Obj:=fun b=>@ite _ (S9 g o x0 b) (Classical.propDecidable _) (w.heap[b]?) (g.h b)
  have gh1:∀ b,S9 g o x0 b→gh b=w.heap[b]?:=fun b k=>if_pos k
  have gh0:∀ b,¬ S9 g o x0 b→gh b=g.h b:=fun b k=>if_neg k
  have hsub:∀ b x,g.h b=some x→gh b=some x:=by
   intro b x k
   by_cases e:S9 g o x0 b
   ·rw [gh1 b e];exact hs.frz b x k
   ·rw [gh0 b e];exact k
  have ha:I6 p g ⟨gh,g.blk,g.hdr,g.ihdr⟩:=⟨hsub,fun _ _=>rfl,fun _ _=>rfl,fun _ _=>rfl⟩
  have old:∀ o' x,(if o'=o then bA (h o) else h o')=some x→(o'≠o∧h o'=some x)∨(o'=o∧x = .row e sz xs true):=by
   intro o' x k
   by_cases e':o'=o
   ·rw [if_pos e',ho,hfz] at k
    simp only [B1] at k
    exact .inr ⟨e',k.symm⟩
   ·rw [if_neg e'] at k;exact .inl ⟨e',k⟩
  have hin:∀ i sz ys v,inner h o i=some (sz,ys)→i<X4 (g.hdr o)→g.ihdr o i=some v→VD gh (.Z sz ys) v:=by
   intro i sz ys v hi hl hv
   obtain⟨f,ie,zs,vs,h1,h2,h3,h4,h5,h6,h7⟩:=eM hs hi hl hv
   have ex:x0 = .nst f ie sz zs:=by rw [ho] at h1;exact Option.some.inj h1
   rcases FB hsub h6 (eS hsub _ _ _ h7) (fun b hb=>gh1 b (by rw [ex];exact .inr ⟨i,v,(List.getElem?_eq_some_iff.1 h2).1,hv,hb⟩)) with ⟨_,k⟩|⟨b,cap,k1,k2,k3,k4⟩
   ·exact absurd k h4
   ·exact⟨_,cap,k1,k2,k3,.inr ⟨_,rfl,k4⟩⟩
  refine⟨⟨gh,g.blk,g.hdr,g.ihdr⟩,ha,rfl,rfl,⟨?_,hs.unt,?_,?_,?_,?_,?_⟩,rfl,hin⟩
  ·intro b x (k:gh b=some x)
   by_cases e:S9 g o x0 b
   ·rw [gh1 b e] at k;exact k
   ·rw [gh0 b e] at k;exact hs.frz b x k
  ·intro o' x k
   rcases old o' x k with ⟨_,k⟩|⟨rfl,rfl⟩
   ·exact (hs.ob _ _ k).keep ha (hs.use _ _ k).1 (hs.use _ _ k).2 fun _ _=>rfl
   ·match x0,ho,hfz,hx0,hob,gh1 with
    | .row e' sz' xs' false,_,hfz,_,hob,gh1=>
     simp only [bA,B1,Ob.row.injEq] at hfz
     obtain⟨rfl,rfl,rfl,_⟩:=hfz
     obtain⟨us,hsz,h1,h2⟩:=hob
     exact FB hsub h1 (eS hsub _ _ _ h2) gh1
    | .row e' sz' xs' true,_,hfz,hx0,_,_=>
     simp only [bA,B1] at hfz
     exact absurd hfz hx0
    | .nst e' ie sz' xs',ho,hfz,_,hob,gh1=>
     simp only [bA,B1,Ob.row.injEq] at hfz
     obtain⟨rfl,rfl,rfl,_⟩:=hfz
     obtain⟨h0,⟨us,h1,hN⟩,_⟩:=hob
     refine FB hsub h1 (wG (by have:=h1.1;omega) fun j x hx=>?_) (fun b hb=>gh1 b (.inl hb))
     obtain⟨v,hv,k⟩:=hN j x hx
     refine⟨v,hv,?_⟩
     rcases k with ⟨a,b,rfl,rfl,_⟩|⟨ys,vs,rfl,k2,k3,k4,_⟩
     ·exact⟨rfl,rfl⟩
     ·exact⟨k4,hin j sz' ys v (by simp only [inner,ho,hx,Option.getD_some,D.l]) (by rw [FQ hs ho];exact (List.getElem?_eq_some_iff.1 hx).1) k3⟩
    | .var _,_,hfz,_,_,_=>simp [bA] at hfz
    | .mp ..,_,hfz,_,_,_=>simp [bA] at hfz
    | .it ..,_,hfz,_,_,_=>simp [bA] at hfz
  ·intro o' x b k hb
   rcases old o' x k with ⟨hne,k⟩|⟨rfl,rfl⟩
   ·rw [Q8 ha.w (hs.use _ _ k).1] at hb
    obtain⟨s1,s2⟩:=hs.sep o' x b k hb
    exact⟨(gh0 b fun e'=>hne (hs.inj o' o x _ b k ho hb e')).trans s1,s2⟩
   ·simp [S9] at hb
  ·intro o1 o2 x1 x2 b k1 k2 b1 b2
   rcases old o1 x1 k1 with ⟨_,k1⟩|⟨rfl,rfl⟩
   ·rcases old o2 x2 k2 with ⟨_,k2⟩|⟨rfl,rfl⟩
    ·rw [Q8 ha.w (hs.use _ _ k1).1] at b1
     rw [Q8 ha.w (hs.use _ _ k2).1] at b2
     exact hs.inj o1 o2 x1 x2 b k1 k2 b1 b2
    ·simp [S9] at b2
   ·simp [S9] at b1
  ·intro o' x k
   rcases old o' x k with ⟨_,k⟩|⟨rfl,rfl⟩
   ·exact hs.use _ _ k
   ·exact⟨(hs.use _ _ ho).1,trivial⟩
  ·intro b
   by_cases e:S9 g o x0 b
   ·exact .inr (hs.sep o _ b ho e).2
   ·rcases hs.dj b with k|k
    ·exact .inl ((gh0 b e).trans k)
    ·exact .inr k
 ·have hno:bA (h o)=h o:=by
   match hx:h o with
   |none=>rfl
   |some (.var _)=>rfl
   |some (.mp ..)=>rfl
   |some (.it ..)=>rfl
   |some (.row e sz xs true)=>rfl
   |some (.row e sz xs false)=>exact absurd ⟨_,e,sz,xs,hx,rfl,by simp⟩ hu
   |some (.nst e ie sz xs)=>exact absurd ⟨_,e,1,xs,hx,rfl,by simp⟩ hu
  refine⟨g,I6.refl p g,rfl,rfl,hs.Fk fun o' x k=>?_,rfl,fun i sz ys v hi _ _=>?_⟩
  ·by_cases e':o'=o
   ·subst e'
    rw [if_pos rfl,hno] at k
    exact k
   ·rwa [if_neg e'] at k
  ·obtain⟨f,ie,xs,ho,_⟩:=yK hi
   exact absurd ⟨_,f,1,xs,ho,rfl,by simp⟩ hu
theorem J2.freeze (hs:J2 u p g h w):∀ os:List Nat,∃ g':G,I6 p g g'∧g'.blk=g.blk∧g'.hdr=g.hdr∧J2 u p g' (K8 h os) w∧HM h os g g'∧g'.ihdr=g.ihdr
 |[]=>⟨g,I6.refl p g,rfl,rfl,hs,(fun _ h=>nomatch h),rfl⟩
 |o::os=>by
  obtain⟨g1,a1,b1,c1,s1,i1,j1⟩:=hs.freeze os
  obtain⟨g2,a2,b2,c2,s2,j2,i2⟩:=s1.Ap o
  refine⟨g2,⟨fun b x k=>a2.h b x (a1.h b x k),fun o _=>by rw [b2,b1],fun o _=>by rw [c2,c1],fun o _=>by rw [j2,j1]⟩,by rw [b2,b1],by rw [c2,c1],?_,?_,by rw [j2,j1]⟩
  ·have:K8 h (o::os)=fun x=>if x=o then bA (K8 h os o) else K8 h os x:=funext (iT h o os)
   rw [this];exact s2
  ·intro o' ho' i sz ys v hi hl hv
   by_cases hm:o'∈os
   ·exact W2 a2.h _ _ (i1 o' hm i sz ys v hi hl hv)
   ·have e:o'=o:=(B7.1 ho').resolve_right hm
    subst e
    refine i2 i sz ys v ?_ (by rw [c1];exact hl) (by rw [j1];exact hv)
    unfold inner
    rw [aN os h o' hm]
    exact hi
theorem CB {o e sz:Nat}{xs:List D}(hob:OB g o (.row e sz xs true) w):VD g.h (.Z sz xs) (g.hdr o):=by
 rcases hob with ⟨h1,h2⟩|⟨b,cap,h1,h2,h3,h4⟩
 ·subst h2;rw [h1];exact⟨none,0,rfl,B9 _,C4 _,.inl rfl⟩
 ·exact⟨_,cap,h1,h2,h3,.inr ⟨_,rfl,h4⟩⟩
theorem LS {o e sz lo n:Nat}{xs:List D}(hob:OB g o (.row e sz xs true) w){v:Value}(hv:VL g (.sub o sz lo n) v):VD g.h (.Z sz ((xs.drop lo).take n)) v:=by
 obtain⟨hl,A,cap,rfl,hn,hc,hA⟩:=hv
 rw [gE hob] at hl
 have hlen:((xs.drop lo).take n).length=n:=by simp;omega
 refine⟨A,cap,by rw [hlen],by omega,hc,?_⟩
 rcases hA with rfl|⟨b,hb,rfl⟩
 ·left;simp
 ·right
  refine⟨_,rfl,?_⟩
  rcases hob with ⟨h1,h2⟩|⟨b',cap',h1,_,_,h4⟩
  ·rw [h1] at hb;simp [Value.ownBlock] at hb
  ·rw [h1] at hb
   simp only [Value.ownBlock,B1] at hb
   subst hb
   obtain⟨us,k1,k2⟩:=gT h4
   refine aJ (fun _ _ h=>h) (cV n (eR lo k1)) fun j v hj=>?_
   rw [List.getElem?_take] at hj
   split at hj
   ·rw [List.getElem?_drop] at hj
    have:=k2 _ v hj
    rw [H8] at this ⊢
    simpa using this
   ·cases hj
theorem uH {x:V}{v:Value}{d:D}{fz os:List Nat}(hv:VA g x v)(hx:x.K7 p)(hd:CM h x=some (d,fz))(hfz:∀ o∈fz,o∈os)
  (ha:I6 p g g') (hs:J2 u p g' (K8 h os) w) (hir:HM h os g g'):VD g'.h d v:=by
 unfold CM at hd
 split at hd
 ·simp only [B1,C7] at hd
  obtain⟨rfl,rfl⟩:=hd
  exact W2 ha.h _ _ hv
 ·split at hd
  ·rename_i o _ e sz xs fzz ho
   simp only [B1,C7] at hd
   obtain⟨rfl,rfl⟩:=hd
   have k:K8 h os o=some (.row e sz xs true):=by rw [gD os h o (hfz o (by simp)),ho];rfl
   have hv:v=g.hdr o:=hv.1
   subst hv
   rw [← ha.hdr o hx]
   exact CB (hs.ob _ _ k)
  ·rename_i o _ e ie sz xs ho
   simp only [B1,C7] at hd
   obtain⟨rfl,rfl⟩:=hd
   have k:K8 h os o=some (.row e 1 xs true):=by rw [gD os h o (hfz o (by simp)),ho];rfl
   have hv:v=g.hdr o:=hv.1
   subst hv
   rw [← ha.hdr o hx]
   exact CB (hs.ob _ _ k)
  ·cases hd
 ·split at hd
  ·rename_i o i _ sz ys ho
   simp only [B1,C7] at hd
   obtain⟨rfl,rfl⟩:=hd
   exact hir o (hfz o (by simp)) i sz ys v ho (hv:VL g (.ir o i) v).2.2 (hv:VL g (.ir o i) v).1
  ·cases hd
 ·split at hd
  ·rename_i o z lo n _ e sz xs fzz ho
   cases hz:Nat.beq z sz with
   |false=>rw [hz] at hd;cases hd
   |true=>
    rw [hz] at hd
    simp only [cond_true,B1,C7] at hd
    obtain⟨rfl,rfl⟩:=hd
    have hz:z=sz:=B0 hz
    subst hz
    have k:K8 h os o=some (.row e z xs true):=by rw [gD os h o (hfz o (by simp)),ho];rfl
    exact LS (hs.ob _ _ k) (VL.agree (x:= .sub o z lo n) ha hx hv)
  ·cases hd
 ·simp only [B1,C7] at hd
  obtain⟨rfl,rfl⟩:=hd
  exact hv
 ·cases hd
theorem mW {os:List Nat}(ha:I6 p g g')(hs:J2 u p g' (K8 h os) w)(hir:HM h os g g'):∀ {xs:List V} {vs:List Value} {ds:List D} {fz:List Nat},
  F2 (VL g) xs vs→(∀ x∈xs,x.aS p)→qR h xs=some (ds,fz)→(∀ o∈fz,o∈os)→jV g'.h ds vs
 |[],_,ds,fz,hv,_,hd,_=>by
  cases hv
  simp only [qR,B1,C7] at hd
  obtain⟨rfl,rfl⟩:=hd
  rfl
 |x::xs,_,ds,fz,hv,hx,hd,hfz=>by
  cases hv with
  |cons h1 h2=>
   simp only [qR] at hd
   split at hd
   ·rename_i d a ds' b e1 e2
    simp only [B1,C7] at hd
    obtain⟨rfl,rfl⟩:=hd
    have hxa:x.K7 p:=by
     have:=hx x (by simp)
     match x,this with
     | .agg _,_=>exact h1.elim
     | .fn _ [],_=>intro v hv;cases hv
     | .fn _ (_::_),_=>exact h1.elim
     | .tup _,_=>exact h1.elim
     | .d _,_=>trivial
     | .ptr ..,k=>exact k
     | .mp _,k=>exact k
     | .ir ..,k=>exact k
     | .irp ..,k=>exact k
     | .el ..,_=>trivial
     | .rp ..,k=>exact k
     | .row _,k=>exact k
     | .sub ..,k=>exact k
    exact⟨_,_,rfl,uH (W6 h1) hxa e1 (fun o ho=>hfz o (by simp [ho])) ha hs hir,mW ha hs hir h2 (fun y hy=>hx y (by simp [hy])) e2 (fun o ho=>hfz o (by simp [ho]))⟩
   ·cases hd
theorem Q9 {x:V}{v:Value}{d:D}{fz os:List Nat}(hv:VA g x v)(hx:x.K7 p)(hd:Ee h x=some (d,fz))(hfz:∀ o∈fz,o∈os)
  (ha:I6 p g g') (hs:J2 u p g' (K8 h os) w) (hir:HM h os g g'):VD g'.h d v:=by
 unfold Ee at hd
 split at hd
 ·split at hd
  ·rename_i e
   simp only [B1,C7] at hd
   obtain⟨rfl,rfl⟩:=hd
   obtain⟨us,rfl,k⟩:=hv
   exact⟨us,rfl,mW ha hs hir k hx e hfz⟩
  ·cases hd
 ·exact uH hv hx hd hfz ha hs hir
end
end Go.AE
namespace Go.AE
open Go.RowKit
def nH (P:Program)(o:Oper)(a:Act)(w:World)(R:Value→World→Prop):Prop:=
 (∃ v w',(execOp a.eval o).run P w = .ok (.value v) w'∧R v w')∨
 (∃ w',(execOp a.eval o).run P w = .ok .skip w'∧R undef w')∨
 (∃ f args w1,(execOp a.eval o).run P w = .ok (.enter f args) w1∧Calls P f args w1 fun e w'=>∃ v,e = .returned v∧R v w')
theorem nH.mono {P:Program}{o:Oper}{a:Act}{w:World}{R R':Value→World→Prop}(h:nH P o a w R)(hr:∀ v w',R v w'→R' v w'):nH P o a w R':=by
 rcases h with ⟨v,w',h1,h2⟩|⟨w',h1,h2⟩|⟨f,args,w1,h1,h2⟩
 ·exact .inl ⟨v,w',h1,hr _ _ h2⟩
 ·exact .inr (.inl ⟨w',h1,hr _ _ h2⟩)
 ·exact .inr (.inr ⟨f,args,w1,h1,h2.mono fun e w' ⟨v,he,hv⟩=>⟨v,he,hr _ _ hv⟩⟩)
theorem nH.wp {P:Program}{o:Oper}{a:Act}{w:World}{R:Value→World→Prop}(h:nH P o a w R){K:Act→World→Prop}{Q:Exit→Act→World→Prop}
  (hk:∀ v w',R v w'→K (a.put o.dst v) w'):o.wp P a w K Q:=by
 unfold Oper.wp
 rcases h with ⟨v,w',h1,h2⟩|⟨w',h1,h2⟩|⟨f,args,w1,h1,h2⟩
 ·rw [h1];exact hk v w' h2
 ·rw [h1];exact hk undef w' h2
 ·rw [h1]
  exact h2.mono fun e w' ⟨v,he,hv⟩=>by subst he;exact hk v w' hv
def El (u:Nat→Option Obj)(p q:Nat→Prop)(g:G)(st:St)(w:World)(vv:V)(st':St)(v:Value)(w':World):Prop:=
 ∃ g',J2 u q g' st'.h w'∧V7 p g g'∧Ext g w g' w'∧VV g' vv v∧vv.K5 q∧st'.t=st.t∧st'.m=st.m∧∀ o,p o→st.h o=none→g'.ihdr o=g.ihdr o
theorem pY (h:Nat→Option Obj):∀ v:Value,VD h (xC v) v:=by
 intro v
 unfold xC
 split<;>first|rfl|trivial|exact⟨_,rfl,rfl⟩
theorem mP (h:Nat→Option Obj):∀ vs:List Value,jV h (vs.map xC) vs
 |[]=>rfl
 |v::vs=>⟨v,vs,rfl,pY h v,mP h vs⟩
theorem pX (h:Nat→Option Obj)(v:Value):VD h (EN v) v:=by
 unfold EN
 split
 ·exact⟨_,rfl,mP h _⟩
 ·exact pY h v
theorem cC {v:V}{R:Type}{K:V→Option R}:force v K=K v:=by cases v<;>rfl
section
variable {u:Nat→Option Obj} {p q:Nat→Prop} {g:G} {st:St} {a:Act} {w:World} {P:Program} {o:Oper}
structure At (u:Nat→Option Obj) (p:Nat→Prop) (g:G) (st:St) (a:Act) (w:World):Prop where
 hp:J2 u p g st.h w
 tm:∀ t,VV g (st.t t) (a.tmps.getD t undef)
 nm:∀ t,(st.t t).K5 p
theorem At.ev (S:At u p g st a w)(x:Operand):VV g (I1 st x) (a.eval x):=by
 cases x with
 |tmp t=>exact S.tm t
 |const v=>exact pX _ v
 |global n=>exact (trivial:VD g.h .top _)
 |func f=>exact (rfl:Value.func (.func f) #[] #[]=_)
theorem At.L7 (S:At u p g st a w)(x:Operand):(I1 st x).K5 p:=by
 cases x with
 |tmp t=>exact S.nm t
 |const v=>exact trivial
 |global n=>exact trivial
 |func f=>exact trivial
theorem nH.val (S:At u p g st a w)(hpq:∀ x,p x→q x){v:Value}{vv:V}(hr:(execOp a.eval o).run P w = .ok (.value v) w)(hv:VV g vv v)(hu:vv.K5 p) :
  nH P o a w fun v w'=>El u p q g st w vv st v w':=
 .inl ⟨v,w,hr,g,S.hp.more hpq,I6.refl p g,Ext.refl g w,hv,hu.mono hpq,rfl,rfl,fun _ _ _=>rfl⟩
theorem oW {v:Value}{b:Bool}(h:VV g (.d (.bool b)) v):v = .bool b:=h
theorem dU {v:Value}{k:IntKind}{n:Int}(h:VV g (.d (.int k n)) v):v = .int k n:=h
theorem PN (S:At u p g st a w)(hpq:∀ x,p x→q x){x:Operand}(ho:o.op = .move x∨o.op = .assign x) :
  nH P o a w fun v w'=>El u p q g st w (I1 st x) st v w':=by
 refine nH.val S hpq (v:=a.eval x) ?_ (S.ev x) (S.L7 x)
 rcases ho with ho|ho<;>simp [execOp,ho]
theorem Dm (S:At u p g st a w)(hpq:∀ x,p x→q x){x y z:Operand}{b:Bool}(ho:o.op = .pick x y z)(hx:I1 st x = .d (.bool b)) :
  nH P o a w fun v w'=>El u p q g st w (if b then I1 st y else I1 st z) st v w':=by
 have hb:=S.ev x
 rw [hx] at hb
 have hb:=oW hb
 refine nH.val S hpq (v:=if b then a.eval y else a.eval z) ?_ ?_ ?_
 ·simp only [execOp,ho,hb,asBool]
  cases b<;>simp
 ·cases b
  ·exact S.ev z
  ·exact S.ev y
 ·cases b
  ·exact S.L7 z
  ·exact S.L7 y
theorem dO (S:At u p g st a w)(hpq:∀ x,p x→q x){x:Operand}(ho:o.op = .nilCheck x)
  (hx:(∃ q f,I1 st x = .ptr q f)∨(∃ sz xs i f,I1 st x = .el sz xs i f)∨(∃ q sz i f,I1 st x = .rp q sz i f)∨(∃ f,I1 st x = .d (.fn f))∨(∃ f cs,I1 st x = .fn f cs)) :
  nH P o a w fun v w'=>El u p q g st w (I1 st x) st v w':=by
 refine nH.val S hpq (v:=a.eval x) ?_ (S.ev x) (S.L7 x)
 have hv:=S.ev x
 rcases hx with ⟨q',f,e⟩|⟨sz,xs,i,f,e⟩|⟨q',sz,i,f,e⟩|⟨f,e⟩|⟨f,cs,e⟩
 ·rw [e] at hv
  have hv:a.eval x = .pointer (some ⟨g.blk q',f,none⟩):=hv
  simp [execOp,ho,hv]
 ·rw [e] at hv
  obtain⟨ad,_,_,hv⟩:=hv
  simp [execOp,ho,hv]
 ·rw [e] at hv
  obtain⟨_,b,_,hv⟩:=hv
  simp [execOp,ho,hv]
 ·rw [e] at hv
  have hv:a.eval x = .func (.func f) #[] #[]:=hv
  simp [execOp,ho,hv]
 ·rw [e] at hv
  cases cs with
  |nil=>
   have hv:a.eval x = .func (.func f) #[] #[]:=hv
   simp [execOp,ho,hv]
  |cons c cs=>
   obtain⟨us,hv,_⟩:=hv
   simp [execOp,ho,hv]
theorem kK {op:BinOp}{t:TypeId}{x y:Operand}{k k':IntKind}{n m:Int}:(eqGuard op t x y (.int k n) (.int k' m)).run P w = .ok () w:=by
 cases op<;>rfl
theorem IE {op:BinOp}{t:TypeId}{x y:Operand}{b b':ByteArray}:(eqGuard op t x y (.string b) (.string b')).run P w = .ok () w:=by
 cases op<;>rfl
theorem qC {op:BinOp}{t:TypeId}{x y:Operand}{b b':Bool}:(eqGuard op t x y (.bool b) (.bool b')).run P w = .ok () w:=by
 cases op<;>rfl
theorem LX {op:BinOp}{t:TypeId}{k:IntKind}{n m:Int}{R:Type}{K:D→Option R}{r:R}(h:uC op k n m K=some r)(hs:op≠ .shl∧op≠ .shr) :
  ∃ z v,K z=some r∧(binOp op t (.int k n) (.int k m)).run P w = .ok v w∧VD g.h z v:=by
 cases op<;>simp only [uC] at h
 case shl=>exact absurd rfl hs.1
 case shr=>exact absurd rfl hs.2
 case quo|rem=>
  cases e:decide (m=0) with
  |true=>rw [e] at h;cases h
  |false=>
   rw [e] at h
   have e:m≠0:=E9 e
   refine⟨_,_,h,?_,rfl⟩
   simp [binOp,Op.intDiv,e]
 all_goals first
  |(refine⟨_,_,h,?_,rfl⟩;simp [binOp,Op.intArith,Op.intBits,Op.intCmp];done)
  |exact absurd h (by simp)
theorem NN {op:BinOp}{t:TypeId}{b b':ByteArray}{R:Type}{K:D→Option R}{r:R}(h:uS op b.data.toList b'.data.toList K=some r) :
  ∃ z v,K z=some r∧(binOp op t (.string b) (.string b')).run P w = .ok v w∧VD g.h z v:=by
 cases op<;>simp only [uS] at h
 case add=>
  cases e:decide (b.data.toList.length+b'.data.toList.length≤sL) with
  |false=>rw [e] at h;cases h
  |true=>
   rw [e] at h
   have e:=E7 e
   simp only [sL,E4] at e
   refine⟨_,.string (b++b'),h,?_,b++b',rfl,by simp⟩
   have hb:b.size+b'.size≤9223372036854775807:=by simp only [ByteArray.size];omega
   simp only [binOp]
   exact run_string_add_sum w b b' hb
 all_goals first
  |(refine⟨_,_,h,?_,rfl⟩;simp [binOp,Op.stringOp,ByteArray.toList_eq];done)
  |exact absurd h (by simp)
theorem HU {op:BinOp}{t:TypeId}{b b':Bool}(ht:P.underlying t=some .bool) :
  (binOp .eql t (.bool b) (.bool b')).run P w = .ok (.bool (b==b')) w∧(binOp .neq t (.bool b) (.bool b')).run P w = .ok (.bool (!(b==b'))) w:=
 ⟨run_eql_bool w t b b' ht,run_neq_bool w t b b' ht⟩
end
end Go.AE
namespace Go.AE
open Go.RowKit
section
variable {u:Nat→Option Obj} {p q:Nat→Prop} {g:G} {st:St} {a:Act} {w:World} {P:Program} {o:Oper}
theorem jJ {t:TypeId}{d:TypeDesc}(h:P.underlying t=some d):(isAgg t).run P w = .ok (O5 d) w:=by
 simp only [isAgg,Sem.run_bind,run_underlying h,Result.andThen_ok]
 cases d<;>rfl
theorem R3 {t:TypeId}{i:TypeInfo}(h:P.info? t=some i):(sizeOf t).run P w = .ok i.size w:=by
 simp [sizeOf,typeInfo,h]
theorem R4 {t:TypeId}(h:jZ P t=true):∃ d i,P.underlying t=some d∧P.info? t=some i∧J5 P t=O5 d∧K2 P t=i.size:=by
 unfold jZ at h
 cases hd:P.underlying t with
 |none=>simp [hd] at h
 |some d=>
  cases hi:P.info? t with
  |none=>simp [hi] at h
  |some i=>exact⟨d,i,rfl,rfl,by simp [J5,hd],by simp [K2,hi]⟩
theorem aC {t:TypeId}{d:TypeDesc}{i:TypeInfo}(hd:P.underlying t=some d)(hi:P.info? t=some i)(hg:O5 d=true){ad:Addr}{us:List Value}(hl:us.length=i.size)
  (hc:∀ j v,us[j]? = some v→w.cell? (ad.add j)=some v):(loadVar t ad).run P w = .ok (.agg us.toArray) w:=by
 simp only [loadVar,Sem.run_bind,jJ hd,hg,Result.andThen_ok,if_true,R3 hi]
 rw [← hl,run_loadCells_list w ad us hc]
 rfl
theorem P0 {t:TypeId}{d:TypeDesc}(hd:P.underlying t=some d)(hg:O5 d=false){ad:Addr}{v:Value}
  (hc:w.cell? ad=some v):(loadVar t ad).run P w = .ok v w:=by
 simp only [loadVar,Sem.run_bind,jJ hd,hg,Result.andThen_ok,D8,if_false]
 simp [hc]
theorem KV {x:V}{v:Value}(h:VA g x v):VL g (bB x) v:=by
 match x with
 | .agg _=>exact (trivial:VD g.h .top _)
 | .fn f []=>exact h
 | .fn f (_::_)=>exact (trivial:VD g.h .top _)
 | .tup _=>exact (trivial:VD g.h .top _)
 | .d x=>exact h
 | .ptr o off=>exact h
 | .el sz xs i off=>exact h
 | .rp o sz i off=>exact h
 | .row o=>exact h
 | .mp o=>exact h
 | .ir ..=>exact h
 | .irp ..=>exact h
 | .bp ..=>exact (trivial:VD g.h .top _)
 | .sub o sz lo n=>exact h
theorem HE {x:V}(h:x.K7 p):(bB x).aS p:=by
 match x with
 | .agg _=>trivial
 | .fn f []=>trivial
 | .fn f (_::_)=>trivial
 | .tup _=>trivial
 | .d x=>trivial
 | .ptr o off=>exact h
 | .el sz xs i off=>trivial
 | .rp o sz i off=>exact h
 | .row o=>exact h
 | .mp o=>exact h
 | .ir ..=>exact h
 | .irp ..=>exact h
 | .bp ..=>trivial
 | .sub o sz lo n=>exact h
theorem NX:∀ {cs:List V} {us:List Value} {xs:List D},F2 (VA g) cs us→EA cs=some xs→jV g.h xs us
 |[],_,xs,h,e=>by
  cases h
  simp only [EA,B1] at e
  subst e;rfl
 |c::cs,_,xs,h,e=>by
  cases h with
  |cons h1 h2=>
   simp only [EA] at e
   split at e
   ·rename_i x xs' e1
    simp only [B1] at e
    subst e
    exact⟨_,_,rfl,h1,NX h2 e1⟩
   ·cases e
theorem hY {cs:List V}{us:List Value}(h:F2 (VA g) cs us):VA g (T8 cs) (.agg us.toArray):=by
 unfold T8
 split
 ·rename_i xs e
  exact⟨us.toArray,rfl,by simpa using NX h e⟩
 ·refine⟨us.toArray,rfl,?_⟩
  simp only []
  exact F2.qT (h.mono fun c _ b hc=>KV hc)
theorem cD {cs:List V}(h:∀ c∈cs,c.K7 p):(T8 cs).K7 p:=by
 unfold T8
 split
 ·trivial
 ·intro v hv
  obtain⟨c,hc,rfl⟩:=List.mem_map.1 hv
  exact HE (h c hc)
theorem O2 {x:V}(h:x.K7 p):x.K5 p:=by
 match x with
 | .tup _=>exact h.elim
 | .agg _=>exact h
 | .fn _ _=>exact h
 | .d x=>trivial
 | .ptr o off=>exact h
 | .el sz xs i off=>trivial
 | .rp o sz i off=>exact h
 | .row o=>exact h
 | .mp o=>exact h
 | .ir ..=>exact h
 | .irp ..=>exact h
 | .bp ..=>exact h
 | .sub o sz lo n=>exact h
theorem yZ {t:Y2}{x:D}(h:M0 t x=true){hh:Nat→Option Obj}{v:Value}(hv:VD hh x v):VD hh (qD t x) v:=by
 match t,x,h,hv with
 | .any,_,_,hv=>exact hv
 | .bool,.bool _,_,hv=>exact hv
 | .int k,.int k' _,h,hv=>
  have:k=k':=by simpa [M0] using h
  subst this;exact hv
 | .str,.str _,_,hv=>exact hv
 | .Z sz,.Z sz' _,h,hv=>
  have:sz=sz':=B0 h
  subst this;exact hv
 | .Z sz,.nils _ _,_,hv=>
  have hv:v = .slice none 0 0:=hv
  subst hv
  exact⟨none,0,rfl,B9 _,C4 _,.inl rfl⟩
theorem jD {hh:Nat→Option Obj}:∀ {ts:List Y2} {cs:List D} {us:List Value} {x:D} {j:Nat},K1 ts cs=true→jV hh cs us→(∀ i,cs[i]? = x.cells[j+i]?)→jV hh (aM ts x j) us
 |[],[],us,_,_,_,hv,_=>hv
 |t::ts,c::cs,us,x,j,h,hv,hx=>by
  simp only [K1,A9] at h
  obtain⟨v,r,rfl,h1,h2⟩:=hv
  have hc:x.at_ j=c:=by
   have:=hx 0
   simp at this
   simp [D.at_,← this]
  exact⟨v,r,rfl,by rw [hc];exact yZ h.1 h1,jD h.2 h2 fun i=>by have:=hx (i+1);simp at this;rw [this];congr 1;omega⟩
 |[],_::_,_,_,_,h,_,_=>by simp [K1] at h
 |_::_,[],_,_,_,h,_,_=>by simp [K1] at h
theorem dJ {t:Ty}{x:D}(h:eG t x=true){hh:Nat→Option Obj}{v:Value}(hv:VD hh x v):VD hh (L0 t x) v:=by
 match t,x,h,hv with
 | .leaf t,x,h,hv=>exact yZ h hv
 | .agg ts,.agg cs,h,hv=>
  obtain⟨us,rfl,h1⟩:=hv
  exact⟨us,rfl,jD (x:= .agg cs) (j:=0) h h1 fun i=>by simp [D.cells]⟩
 | .ifc t ts,.iface t' (.agg cs),h,hv=>
  simp only [eG,A9] at h
  have e:t=t':=B0 h.1
  subst e
  obtain⟨v',rfl,us,rfl,h1⟩:=hv
  exact⟨_,rfl,us,rfl,jD (x:= .agg cs) (j:=0) h.2 h1 fun i=>by simp [D.cells]⟩
theorem VX {t:Y2}{x:D}(h:M0 t x=true)(ht:t≠ .any){hh:Nat→Option Obj}{v:Value}(hv:VD hh x v):v.oneCell'=true:=by
 match t,x,h,hv with
 | .any,_,_,_=>exact absurd rfl ht
 | .bool,.bool _,_,hv=>have hv:v=_:=hv;subst hv;rfl
 | .int k,.int k' _,h,hv=>have hv:v=_:=hv;subst hv;rfl
 | .str,.str _,_,hv=>obtain⟨b,rfl,_⟩:=hv;rfl
 | .Z sz,.Z sz' _,h,hv=>obtain⟨A,cap,rfl,_⟩:=hv;rfl
 | .Z sz,.nils _ _,_,hv=>have hv:v=_:=hv;subst hv;rfl
theorem HD {t:TypeId}(h:J5 P t=true):kA P t = .agg (qS P 8 t):=by simp [kA,h]
theorem KF {t:TypeId}(h:J5 P t=false):kA P t = .leaf (Q0 P t):=by simp [kA,h]
def U1 (w:World)(ad:Addr)(us:List Value):Prop:=∀ j v,us[j]? = some v→w.cell? (ad.add j)=some v
theorem U1.sub {ad:Addr}{us:List Value}(h:U1 w ad us)(n:Nat):U1 w (ad.add n) (us.drop n):=fun j v hj=>by
 rw [O3]
 exact h _ v (by rw [← hj,List.getElem?_drop])
theorem U1.take {ad:Addr}{us:List Value}(h:U1 w ad us)(n:Nat):U1 w ad (us.take n):=fun j v hj=>by
 rw [List.getElem?_take] at hj
 split at hj
 ·exact h j v hj
 ·cases hj
theorem getD_some {α:Type}{xs:List α}{i:Nat}{d:α}(h:i<xs.length):xs[i]? = some (xs[i]?.getD d):=by
 rw [C2 h];rfl
theorem sK {t:TypeId}(ht:jZ P t=true){hh:Nat→Option Obj}{sz:Nat}{xs:List D}{us:List Value}{ad:Addr}(hf:aT hh sz xs us)(hc:U1 w ad us){i:Nat}(hi:i<xs.length)
  (hsz:K2 P t=sz) (hna:V9 (kA P t)=true) (hok:eG (kA P t) (xs[i]?.getD .top)=true) :
  ∃ v,(loadVar t (ad.add (i*sz))).run P w = .ok v w∧VD hh (L0 (kA P t) (xs[i]?.getD .top)) v:=by
 obtain⟨d,info,hd,hinfo,hg,hs⟩:=R4 ht
 obtain⟨v,h1,h2,h3,h4⟩:=vD hf (getD_some (d:=D.top) hi)
 refine⟨v,?_,dJ hok h4⟩
 have hcell:∀ j u,v.cells.toList[j]? = some u→w.cell? ((ad.add (i*sz)).add j)=some u:=fun j u hj=>by
  rw [O3]
  exact hc _ u (h2 j u (by simpa using hj))
 cases hagg:O5 d with
 |true=>
  rw [hagg] at hg
  rw [HD hg] at hok
  have hx:∃ cs,xs[i]?.getD .top = .agg cs:=by
   cases hx:xs[i]?.getD D.top with
   |agg cs=>exact⟨cs,rfl⟩
   |_=>rw [hx] at hok;simp [eG] at hok
  obtain⟨cs,hx⟩:=hx
  rw [hx] at h4
  obtain⟨us',rfl,_⟩:=h4
  rw [aC hd hinfo hagg (us:=us'.toList) (by simp only [E4];rw [← hs,hsz];exact h1) hcell]
 |false=>
  rw [hagg] at hg
  rw [KF hg] at hok hna
  have hone:v.oneCell'=true:=VX hok (by intro e;rw [e] at hna;simp [V9] at hna) h4
  have:=hcell 0 v (by rw [aK hone];rfl)
  rw [show (ad.add (i*sz)).add 0=ad.add (i*sz) from by rw [O3,Nat.add_zero]] at this
  exact P0 hd hagg this
theorem IW {t e:TypeId}(ht:jZ P t=true)(he:O6 P t=some e){hh:Nat→Option Obj}{sz:Nat}{xs:List D}{us:List Value}{ad:Addr}(hf:aT hh sz xs us)(hc:U1 w ad us){i:Nat}(hi:i<xs.length)
  (hn:O9 (xs[i]?.getD .top)=true):(loadVar t (ad.add (i*sz))).run P w = .ok (.slice none 0 0) w:=by
 obtain⟨d,info,hd,hinfo,hg,hs⟩:=R4 ht
 obtain⟨v,h1,h2,h3,h4⟩:=vD hf (getD_some (d:=D.top) hi)
 have hv:v = .slice none 0 0:=by
  cases hx:xs[i]?.getD D.top with
  |nils a b=>rw [hx] at h4;exact h4
  |_=>rw [hx] at hn;cases hn
 subst hv
 have hagg:O5 d=false:=by
  have:P.underlying t=some (.slice e):=by
   unfold O6 at he
   split at he
   ·rename_i e' h;cases he;exact h
   ·cases he
  rw [hd] at this
  cases this
  rfl
 have:=hc (i*sz) (.slice none 0 0) (by simpa using h2 0 (.slice none 0 0) rfl)
 exact P0 hd hagg this
theorem lY {R:Type}{t:TypeId}{x:D}{k:D→Option R}{l:Option R}{r:R}(h:MJ P t x k l=some r):(∃ e,O6 P t=some e∧O9 x=true∧k (.nils e (K2 P e))=some r)∨l=some r:=by
 unfold MJ at h
 split at h
 ·rename_i e he
  cases hn:O9 x with
  |true=>rw [hn] at h;exact .inl ⟨e,he,rfl,h⟩
  |false=>rw [hn] at h;exact .inr h
 ·exact .inr h
theorem vE {hh:Nat→Option Obj}:∀ {xs:List D} {us:List Value} {j:Nat} {v:Value},jV hh xs us→us[j]? = some v→∃ x,xs[j]? = some x∧VD hh x v
 |[],_,j,v,h,hj=>by subst h;simp at hj
 |x::xs,_,j,v,h,hj=>by
  obtain⟨u,r,rfl,h1,h2⟩:=h
  cases j with
  |zero=>simp at hj;subst hj;exact⟨x,rfl,h1⟩
  |succ j=>simpa using vE h2 (by simpa using hj)
theorem wI {hh:Nat→Option Obj}{xs:List D}{us:List Value}(h:jV hh xs us)(n:Nat):jV hh (xs.drop n) (us.drop n):=(W7 _ _ _).2 (((W7 _ _ _).1 h).drop n)
theorem wJ {hh:Nat→Option Obj}{xs:List D}{us:List Value}(h:jV hh xs us)(n:Nat):jV hh (xs.take n) (us.take n):=(W7 _ _ _).2 (((W7 _ _ _).1 h).take n)
theorem nJ {hh:Nat→Option Obj}{xs:List D}{us:List Value}(h:jV hh xs us):xs.length=us.length:=((W7 _ _ _).1 h).length
theorem CO {t:TypeId}(ht:jZ P t=true){hh:Nat→Option Obj}{sz:Nat}{xs:List D}{us:List Value}{ad:Addr}(hf:aT hh sz xs us)(hc:U1 w ad us){i off:Nat}(hi:i<xs.length)
  (hoff:off+K2 P t≤sz) (hag:jW (xs[i]?.getD .top)=true) (hna:V9 (kA P t)=true) (hok:eG (kA P t) (GX (xs[i]?.getD .top) off (K2 P t) (J5 P t))=true) :
  ∃ v,(loadVar t (ad.add (i*sz+off))).run P w = .ok v w∧VD hh (L0 (kA P t) (GX (xs[i]?.getD .top) off (K2 P t) (J5 P t))) v:=by
 obtain⟨d,info,hd,hinfo,hg,hs⟩:=R4 ht
 obtain⟨v,h1,h2,h3,h4⟩:=vD hf (getD_some (d:=D.top) hi)
 generalize hx:xs[i]?.getD D.top=x at *
 have hcell:∀ j u,v.cells.toList[j]? = some u→w.cell? ((ad.add (i*sz)).add j)=some u:=fun j u hj=>by
  rw [O3]
  exact hc _ u (h2 j u (by simpa using hj))
 have hcs:∃ us',v = .agg us'∧jV hh x.cells us'.toList:=by
  match x,h4,hag with
  | .agg cs,h4,_=>obtain⟨us',rfl,h5⟩:=h4;exact⟨us',rfl,h5⟩
 obtain⟨us',rfl,h5⟩:=hcs
 have hus:us'.size=sz:=h1
 rw [← O3]
 cases hagg:O5 d with
 |true=>
  rw [hagg] at hg
  rw [hg] at hok ⊢
  rw [HD hg] at hok ⊢
  simp only [GX,cond_true] at hok ⊢
  have hlen:((us'.toList.drop off).take (K2 P t)).length=info.size:=by simp;omega
  refine⟨.agg ((us'.toList.drop off).take (K2 P t)).toArray,?_,dJ (t:= .agg (qS P 8 t)) hok ⟨_,rfl,by simpa using wJ (wI h5 off) _⟩⟩
  exact aC hd hinfo hagg hlen ((U1.sub (w:=w) (ad:=ad.add (i*sz)) hcell off).take _)
 |false=>
  rw [hagg] at hg
  rw [hg] at hok ⊢
  rw [KF hg] at hok hna ⊢
  simp only [GX,cond_false] at hok ⊢
  have hnany:Q0 P t≠ .any:=by intro e;rw [e] at hna;simp [V9] at hna
  have hlt:off<us'.toList.length:=by
   rcases Nat.lt_or_ge off us'.toList.length with hl|hl
   ·exact hl
   ·have hlc:x.cells.length≤off:=by rw [nJ h5];exact hl
    have:x.at_ off = .top:=by simp [D.at_,List.getElem?_eq_none hlc]
    rw [this] at hok
    cases hT:Q0 P t<;>simp [eG,M0,hT] at hok hnany
  obtain⟨y,hy,hv⟩:=vE h5 (C2 hlt)
  have hat:x.at_ off=y:=by simp [D.at_,hy]
  rw [hat] at hok ⊢
  exact⟨_,P0 hd hagg (hcell off _ (C2 hlt)),dJ (t:= .leaf (Q0 P t)) hok hv⟩
end
end Go.AE
namespace Go.AE
open Go.RowKit
section
variable {u:Nat→Option Obj} {p q:Nat→Prop} {g:G} {st:St} {a:Act} {w:World} {P:Program} {o:Oper} {R:Type} {K:V→St→Option R} {r:R}
def Goal (u:Nat→Option Obj)(p q:Nat→Prop)(g:G)(st:St)(a:Act)(w:World)(P:Program)(o:Oper){R:Type}(K:V→St→Option R)(r:R):Prop:=
 ∃ vv st',K vv st'=some r∧nH P o a w fun v w'=>El u p q g st w vv st' v w'
theorem Goal.val (S:At u p g st a w)(hpq:∀ x,p x→q x){v:Value}{vv:V}(hk:K vv st=some r)(hr:(execOp a.eval o).run P w = .ok (.value v) w)(hv:VV g vv v)(hu:vv.K5 p):Goal u p q g st a w P o K r:=
 ⟨vv,st,hk,nH.val S hpq hr hv hu⟩
theorem H3 {α:Type}{c:Bool}{x:Option α}{r:α}(h:(bif c then x else none)=some r):c=true∧x=some r:=by
 cases c with
 |true=>exact⟨rfl,h⟩
 |false=>cases h
theorem I2 {α:Type}{c:Bool}{x:Option α}{r:α}(h:(bif c then none else x)=some r):c=false∧x=some r:=by
 cases c with
 |true=>cases h
 |false=>exact⟨rfl,h⟩
theorem rN {v:Value}{q' off:Nat}(h:VV g (.ptr q' off) v):v = .pointer (some ⟨g.blk q',off,none⟩):=h
theorem qI (hs:J2 u p g st.h w){ro e sz:Nat}{xs:List D}{fz:Bool}(ho:st.h ro=some (.row e sz xs fz)) :
  (g.hdr ro = .slice none 0 0∧xs=[])∨∃ b cap,g.hdr ro = .slice (some ⟨b,0,none⟩) xs.length cap∧xs.length≤cap∧cap≤maxLen:=by
 have hob:=hs.ob _ _ ho
 cases fz with
 |false=>
  obtain⟨us,_,k1,_⟩:=hob
  rcases J0 k1 with ⟨k,k2,_⟩|⟨b,cap,cur,k,_,k2,k3,_⟩
  ·exact .inl ⟨k,D3 k2⟩
  ·exact .inr ⟨b,cap,k,k2,k3⟩
 |true=>
  rcases hob with k|⟨b,cap,k,k2,k3,_⟩
  ·exact .inl k
  ·exact .inr ⟨b,cap,k,k2,k3⟩
theorem Dk (S:At u p g st a w)(hpq:∀ x,p x→q x){t:TypeId}{x:Operand}(ho:o.op = .load t x)(h:mX P t (I1 st x) st K=some r):Goal u p q g st a w P o K r:=by
 have hv:=S.ev x
 have hu:=S.L7 x
 unfold mX at h
 simp only [] at h
 obtain⟨ht,h⟩:=I2 h
 have ht:jZ P t=true:=by simpa using ht
 obtain⟨d,info,hd,hinfo,hg,hs⟩:=R4 ht
 have exec:∀ (ad:Addr) (v:Value),a.eval x = .pointer (some ad)→(loadVar t ad).run P w = .ok v w→(execOp a.eval o).run P w = .ok (.value v) w:=by
  intro ad v e1 e2
  simp only [execOp,ho,Instr.loadAt,e1,Instr.sureAddr]
  simp [e2]
 match he:I1 st x with
 | .ptr q' off=>
  rw [he] at hv hu h
  have hv:=rN hv
  simp only [] at h
  split at h
  ·rename_i cs hcs
   obtain⟨c,e,hb,hF,h1⟩:=S.hp.ob _ _ hcs
   have hcell:U1 w ⟨g.blk q',0,none⟩ c.toList:=fun j v hj=>by
    rw [H8,C5,cell_of_row w _ j c e (0,0) hb]
    simpa using hj
   cases hag:J5 P t with
   |true=>
    rw [hag] at h hg
    simp only [cond_true] at h
    obtain⟨hle,h⟩:=H3 h
    have hle:off+K2 P t≤cs.length:=B3 hle
    have hlen:=hF.length
    refine Goal.val S hpq h (exec _ _ hv (aC hd hinfo hg.symm (us:=(c.toList.drop off).take (K2 P t)) (by simp at hlen ⊢;omega) ?_)) (P1 (hY ((hF.drop off).take _))) (O2 (cD fun y hy=>?_))
    ·have:=(hcell.sub (w:=w) off).take (K2 P t)
     rwa [H8,C5] at this
    ·exact (S.hp.use _ _ hcs).2 y (List.mem_of_mem_drop (List.mem_of_mem_take hy))
   |false=>
    rw [hag] at h hg
    simp only [cond_false] at h
    split at h
    ·rename_i y hy
     rw [cC] at h
     obtain⟨v,hv2,hvv⟩:=hF.get off y hy
     have:=hcell off v hv2
     rw [H8,C5] at this
     exact Goal.val S hpq h (exec _ _ hv (P0 hd hg.symm this)) (P1 hvv) (O2 ((S.hp.use _ _ hcs).2 y (List.mem_of_getElem? hy)))
    ·cases h
  ·cases h
 | .el sz xs i off=>
  rw [he] at hv hu h
  obtain⟨ad,hr,hi,hv⟩:=hv
  obtain⟨us,hf,hc⟩:=gT hr
  have hc:U1 w ad us:=fun j v hj=>eY S.hp.frz (hc j v hj)
  simp only [] at h
  cases hb:(Nat.beq off 0&&Nat.beq (K2 P t) sz) with
  |true=>
   rw [hb] at h
   simp only [cond_true,typed] at h
   simp only [A9] at hb
   have h0:off=0:=B0 hb.1
   subst h0
   rcases lY h with ⟨e,he,hn,h⟩|h
   ·exact Goal.val S hpq (vv:= .d (.nils e (K2 P e))) h (exec _ _ hv (IW (P:=P) (w:=w) ht he hf hc hi hn)) rfl trivial
   obtain⟨hok,h⟩:=H3 h
   simp only [A9] at hok
   obtain⟨v,h1,h2⟩:=sK (P:=P) (w:=w) ht hf hc hi (B0 hb.2) hok.1 hok.2
   exact Goal.val S hpq h (exec _ _ hv h1) h2 trivial
  |false=>
   rw [hb] at h
   simp only [cond_false,typed] at h
   obtain⟨hle,h⟩:=H3 h
   obtain⟨hag,h⟩:=H3 h
   obtain⟨hok,h⟩:=H3 h
   simp only [A9] at hok
   obtain⟨v,h1,h2⟩:=CO (P:=P) (w:=w) ht hf hc hi (B3 hle) hag hok.1 hok.2
   exact Goal.val S hpq h (exec _ _ hv h1) h2 trivial
 | .rp q' sz i off=>
  rw [he] at hv hu h
  obtain⟨hi,b,hbk,hv⟩:=hv
  simp only [] at h
  split at h
  ·rename_i e sz' xs fz hrow
   replace h:=H3 h
   obtain⟨hsz0,h⟩:=h
   obtain rfl:sz=sz':=B0 hsz0
   clear hsz0
   obtain⟨us,hf,hc⟩:=DA S.hp hrow hbk
   have hc:U1 w ⟨b,0,none⟩ us:=fun j v hj=>by rw [H8,C5];exact hc j v hj
   rw [gE (S.hp.ob _ _ hrow)] at hi
   cases hb:(Nat.beq off 0&&Nat.beq (K2 P t) sz) with
   |true=>
    rw [hb] at h
    simp only [cond_true,typed] at h
    simp only [A9] at hb
    have h0:off=0:=B0 hb.1
    subst h0
    rcases lY h with ⟨e',he',hn,h⟩|h
    ·have h1:=IW (P:=P) (w:=w) ht he' hf hc hi hn
     rw [H8,C5] at h1
     exact Goal.val S hpq (vv:= .d (.nils e' (K2 P e'))) h (exec _ _ hv h1) rfl trivial
    obtain⟨hok,h⟩:=H3 h
    simp only [A9] at hok
    obtain⟨v,h1,h2⟩:=sK (P:=P) (w:=w) ht hf hc hi (B0 hb.2) hok.1 hok.2
    rw [H8,C5] at h1
    exact Goal.val S hpq h (exec _ _ hv h1) h2 trivial
   |false=>
    rw [hb] at h
    simp only [cond_false,typed] at h
    obtain⟨hle,h⟩:=H3 h
    obtain⟨hag,h⟩:=H3 h
    obtain⟨hok,h⟩:=H3 h
    simp only [A9] at hok
    obtain⟨v,h1,h2⟩:=CO (P:=P) (w:=w) ht hf hc hi (B3 hle) hag hok.1 hok.2
    rw [H8,C5] at h1
    exact Goal.val S hpq h (exec _ _ hv h1) h2 trivial
  ·rename_i e ie sz' xs hrow
   replace h:=H3 h
   obtain⟨hc,h⟩:=h
   simp only [A9,E1] at hc
   obtain⟨⟨⟨c1,c2⟩,c3⟩,c4⟩:=hc
   obtain rfl:sz=1:=B0 c1
   obtain rfl:off=0:=B0 c2
   have hi0:=hi
   rw [FQ S.hp hrow] at hi
   obtain⟨y,v,hy,hcell,k⟩:=WQ S.hp hrow hbk hi
   rw [hy] at h
   simp only [Option.getD_some] at h
   rw [Nat.mul_one,Nat.add_zero] at hv
   have hg:O5 d=false:=by rw [← hg];exact c4
   rcases k with ⟨m1,m2,rfl,rfl,_⟩|⟨ys,vs,rfl,_,k3,k4,_⟩
   ·exact Goal.val S hpq (vv:= .d (.nils ie sz')) h (exec _ _ hv (P0 hd hg hcell)) rfl trivial
   ·exact Goal.val S hpq (vv:= .ir q' i) h (exec _ _ hv (P0 hd hg hcell)) ⟨k3,k4,hi0⟩ hu
  ·cases h
 | .irp q' i sz j=>
  rw [he] at hv hu h
  obtain⟨hi0,hd',b,hih,hj,hbk,hv⟩:=hv
  simp only [] at h
  split at h
  ·rename_i sz' ys hin
   replace h:=H3 h
   obtain⟨hc,h⟩:=h
   simp only [A9] at hc
   obtain rfl:sz=sz':=B0 hc.1
   obtain⟨f,ie,xs,vs,_,_,_,_,_,k1,k2⟩:=eM S.hp hin hi0 hih
   rw [PO k1] at hj
   have hcc:U1 w ⟨b,0,none⟩ vs:=fun m v hm=>by rw [H8,C5];exact XJ k1 hbk m v hm
   simp only [typed] at h
   replace h:=H3 h
   obtain⟨hok,h⟩:=h
   simp only [A9] at hok
   obtain⟨v,h1,h2⟩:=sK (P:=P) (w:=w) ht k2 hcc hj (B0 hc.2) hok.1 hok.2
   rw [H8,C5] at h1
   exact Goal.val S hpq h (exec _ _ hv h1) h2 trivial
  ·cases h
 | .d _=>rw [he] at h;cases h
 | .row _=>rw [he] at h;cases h
 | .sub ..=>rw [he] at h;cases h
 | .agg _=>rw [he] at h;cases h
 | .fn ..=>rw [he] at h;cases h
 | .tup _=>rw [he] at h;cases h
 | .mp _=>rw [he] at h;cases h
 | .ir ..=>rw [he] at h;cases h
 | .bp ..=>rw [he] at h;cases h
theorem Ku (S:At u p g st a w)(hpq:∀ x,p x→q x){x:Operand}{ts:Array TypeId}{t:TypeId}{c:Call}(hop:o.op = .call c)(hcal:c.callee = .builtin .len)(hargs:c.args=#[x])(hts:c.argTypes=ts)(ht0:ts[0]? = some t)
  (h:IV P t st (I1 st x) (fun n=>K (.d (.int .i64 n)) st)=some r):Goal u p q g st a w P o K r:=by
 have hv:=S.ev x
 have run:∀ n:Nat,(Builtin.len_ ts o.type #[a.eval x]).run P w = .ok (.int .i64 n) w→(execOp a.eval o).run P w = .ok (.value (.int .i64 n)) w:=by
  intro n e
  simp only [execOp,hop,resolve,hcal,hargs]
  subst hts
  simp [invoke,builtin,e]
 unfold IV at h
 split at h
 ·rename_i ht
  split at h
  ·rename_i s he
   rw [he] at hv
   obtain⟨b,hb,hs⟩:=hv
   refine Goal.val S hpq h (run s.length ?_) rfl trivial
   simp only [Builtin.len_,ht0,hb]
   simp [run_underlying ht,goInt,← hs]
  ·cases h
 ·rename_i e ht
  split at h
  ·rename_i sz xs hl
   obtain⟨A,cap,us,hA,_⟩:=iV S.hp hv hl
   refine Goal.val S hpq h (run xs.length ?_) rfl trivial
   simp only [Builtin.len_,ht0,hA]
   simp [run_underlying ht,goInt]
  ·split at h
   ·rename_i no he
    rw [he] at hv
    have hv:a.eval x=g.hdr no:=hv.1
    split at h
    ·rename_i f ie sz xs hno
     obtain⟨_,⟨us,h1,_⟩,_⟩:=S.hp.ob _ _ hno
     have hl:∃ A cap,g.hdr no = .slice A xs.length cap:=by
      rcases J0 h1 with ⟨k1,k2,_⟩|⟨b,cap,cur,k1,_⟩
      ·exact⟨none,0,by rw [k1,k2]⟩
      ·exact⟨_,cap,k1⟩
     obtain⟨A,cap,hA⟩:=hl
     refine Goal.val S hpq h (run xs.length ?_) rfl trivial
     simp only [Builtin.len_,ht0,hv,hA]
     simp [run_underlying ht,goInt]
    ·cases h
   ·cases h
 ·rename_i k e ht
  split at h
  ·rename_i no he
   rw [he] at hv
   have hv:a.eval x = .map (some (g.blk no)):=hv
   split at h
   ·rename_i kt xs hno
    obtain⟨es,clock,k1,k2,_⟩:=S.hp.ob _ _ hno
    have hlen:xs.length=es.size:=by rw [k2.length];simp
    refine Goal.val S hpq h (run xs.length ?_) rfl trivial
    simp only [Builtin.len_,ht0,hv]
    have hget:(getObj (g.blk no)).run P w = .ok (.map es clock) w:=by simp [getObj,Sem.run,k1]
    simp [run_underlying ht,goInt,hget,hlen]
   ·cases h
  ·rename_i he
   rw [he] at hv
   have hv:a.eval x = .map none:=hv
   refine Goal.val S hpq h (run 0 ?_) rfl trivial
   simp only [Builtin.len_,ht0,hv]
   simp [run_underlying ht,goInt]
  ·cases h
 ·cases h
theorem CV (S:At u p g st a w)(hpq:∀ x,p x→q x){x y:Operand}{c:Call}{b:Builtin}{k k':IntKind}{n m:Int}(hop:o.op = .call c)(hcal:c.callee = .builtin b)(hargs:c.args=#[x,y])
  (hx:I1 st x = .d (.int k n)) (hy:I1 st y = .d (.int k' m)) (hk:k=k') :
  (b = .max→K (.d (.int k (max n m))) st=some r→Goal u p q g st a w P o K r)∧(b = .min→K (.d (.int k (min n m))) st=some r→Goal u p q g st a w P o K r):=by
 have hvx:=S.ev x
 have hvy:=S.ev y
 rw [hx] at hvx
 rw [hy] at hvy
 have hvx:=dU hvx
 have hvy:=dU hvy
 constructor
 ·intro hb h
  subst hb
  refine Goal.val S hpq h (v:= .int k (max n m)) ?_ rfl trivial
  simp only [execOp,hop,resolve,hcal,hargs,List.map_toArray,List.map_cons,List.map_nil,hvx,hvy]
  simp [invoke,builtin,Builtin.max_,Builtin.max2]
  split<;>omega
 ·intro hb h
  subst hb
  refine Goal.val S hpq h (v:= .int k (min n m)) ?_ rfl trivial
  simp only [execOp,hop,resolve,hcal,hargs,List.map_toArray,List.map_cons,List.map_nil,hvx,hvy]
  simp [invoke,builtin,Builtin.min_,Builtin.min2]
  split<;>omega
theorem Dp (S:At u p g st a w)(hpq:∀ x,p x→q x){x:Operand}{op:UnOp}{t:TypeId}{d:D}(ho:o.op = .unOp op t x)(hx:I1 st x = .d d)
  (h:uV op d (fun z=>K (.d z) st)=some r):Goal u p q g st a w P o K r:=by
 have hv:=S.ev x
 rw [hx] at hv
 unfold uV at h
 split at h
 ·rename_i k n
  have hv:a.eval x = .int k n:=hv
  refine Goal.val S hpq h (v:= .int k (k.wrap (0-n))) ?_ rfl trivial
  simp [execOp,ho,hv,Op.unary,Op.intArith]
 ·rename_i k n
  have hv:a.eval x = .int k n:=hv
  refine Goal.val S hpq h ?_ rfl trivial
  simp [execOp,ho,hv,Op.unary,Op.intBits]
 ·rename_i b
  have hv:a.eval x = .bool b:=hv
  refine Goal.val S hpq h (v:= .bool (!b)) ?_ rfl trivial
  simp [execOp,ho,hv,Op.unary]
 ·cases h
theorem kN {t ft:TypeId}{k off:Nat}(h:nU P t k=some (off,ft)):∃ fs f,P.underlying t=some (.struct fs)∧fs[k]? = some f∧f.offset=off∧f.type=ft:=by
 unfold nU at h
 split at h
 ·rename_i fs hfs
  split at h
  ·rename_i f hf
   simp only [B1,C7] at h
   exact⟨fs,f,hfs,hf,h.1,h.2⟩
  ·cases h
 ·cases h
theorem FZ (S:At u p g st a w)(hpq:∀ x,p x→q x){x:Operand}{t ft:TypeId}{k off:Nat}(ho:o.op = .fieldAddr t x k)(hf:nU P t k=some (off,ft))(hs:(Nat.blt 0 (K2 P ft)&&jZ P ft)=true)
  (h:(match I1 st x with
   | .ptr q f=>K (.ptr q (f+off)) st
   | .el sz xs i f=>K (.el sz xs i (f+off)) st
   | .rp q sz i f=>K (.rp q sz i (f+off)) st
   |_=>none)=some r):Goal u p q g st a w P o K r:=by
 obtain⟨fs,f,hu,hfk,rfl,rfl⟩:=kN hf
 simp only [A9] at hs
 obtain⟨d,info,_,hinfo,_,hsz⟩:=R4 hs.2
 have hpos:info.size≠0:=by
  have h1:Nat.ble 1 (K2 P f.type)=true:=hs.1
  have:=B3 h1
  omega
 have hv:=S.ev x
 have hus:=S.L7 x
 have run:∀ ad:Addr,a.eval x = .pointer (some ad)→(execOp a.eval o).run P w = .ok (.value (.pointer (some (ad.add f.offset)))) w:=by
  intro ad e
  simp only [execOp,ho,Instr.fieldAt,e]
  simp [run_underlying hu,hfk,Instr.sureAddr,fieldPlace,R3 hinfo,hpos]
 split at h
 ·rename_i q' f' he
  rw [he] at hv hus
  refine Goal.val S hpq h (run _ (rN hv)) ?_ hus
  rw [H8];exact rfl
 ·rename_i sz xs i f' he
  rw [he] at hv
  obtain⟨ad,h1,h2,h3⟩:=hv
  refine Goal.val S hpq h (run _ h3) ?_ trivial
  refine⟨ad,h1,h2,?_⟩
  rw [O3,Nat.add_assoc]
 ·rename_i q' sz i f' he
  rw [he] at hv hus
  obtain⟨h0,b,h1,h2⟩:=hv
  refine Goal.val S hpq h (run _ h2) ?_ hus
  refine⟨h0,b,h1,?_⟩
  rw [H8,Nat.add_assoc]
 ·cases h
theorem MS (S:At u p g st a w)(hpq:∀ x,p x→q x){x:Operand}{k:Nat}{vs:List V}(ho:o.op = .extract x k)(hx:I1 st x = .tup vs)(hk:k<vs.length)
  (h:K (AW vs k) st=some r):Goal u p q g st a w P o K r:=by
 have hv:=S.ev x
 have hus:=S.L7 x
 rw [hx] at hv hus
 obtain⟨us,h1,h2⟩:=hv
 have hn:∀ (vs:List V) (k:Nat),k<vs.length→vs[k]? = some (AW vs k):=by
  intro vs
  induction vs with
  |nil=>intro k hk;simp at hk
  |cons v vs ih=>
   intro k hk
   cases k with
   |zero=>simp [AW]
   |succ k=>
    show (v::vs)[k+1]? = some (AW vs k)
    simpa using ih k (by simpa using hk)
 obtain⟨v,hv1,hv2⟩:=h2.get k _ (hn vs k hk)
 refine Goal.val S hpq h (v:=v) ?_ (P1 hv2) (O2 (hus _ (List.mem_of_getElem? (hn vs k hk))))
 have hv1:us[k]? = some v:=by simpa using hv1
 simp [execOp,ho,Instr.extract,h1,hv1]
theorem GB (S:At u p g st a w)(hpq:∀ x,p x→q x){x i:Operand}{t:TypeId}{s:G0}{k:IntKind}{n:Int}(ho:o.op = .index t x i)(ht:P.underlying t=some .string)
  (hx:I1 st x = .d (.str s)) (hi:I1 st i = .d (.int k n)) (hb:(decide (0≤n)&&decide (n<s.length))=true)
  (h:K (.d (.int .u8 (s[n.toNat]?.getD 0).toNat)) st=some r):Goal u p q g st a w P o K r:=by
 have hvx:=S.ev x
 have hvi:=S.ev i
 rw [hx] at hvx
 rw [hi] at hvi
 obtain⟨b,hb1,hb2⟩:=hvx
 have hvi:=dU hvi
 simp only [A9,decide_eq_true_eq] at hb
 refine Goal.val S hpq h (v:= .int .u8 (s[n.toNat]?.getD 0).toNat) ?_ rfl trivial
 have hlt:n.toNat<b.size:=by
  have:s.length=b.size:=by rw [← hb2];exact E4
  omega
 have hget:b[n.toNat]? = some (s[n.toNat]?.getD 0):=by
  have h1:b[n.toNat]? = some (b[n.toNat]'hlt):=getElem?_pos b n.toNat hlt
  rw [h1,← hb2]
  have h2:b.data.toList[n.toNat]? = some (b[n.toNat]'hlt):=by
   rw [D0]
   exact C8 hlt
  rw [h2];rfl
 simp only [execOp,ho,Instr.index,hvi,hb1]
 simp [run_underlying ht,asIntOf,hb.1,hget]
end
end Go.AE
namespace Go.AE
open Go.RowKit
section
variable {u:Nat→Option Obj} {p q:Nat→Prop} {g:G} {st:St} {a:Act} {w:World} {P:Program} {o:Oper} {R:Type} {K:V→St→Option R} {r:R}
theorem jK {t:TypeId}{d:TypeDesc}{i:TypeInfo}(hd:P.underlying t=some d)(hi:P.info? t=some i)(hg:O5 d=true){cs:Array Value}{off:Nat} :
  (part t cs off).run P w = .ok (.agg (cs.extract off (off+i.size))) w:=by
 simp only [part,Sem.run_bind,jJ hd,hg,Result.andThen_ok,if_true,R3 hi]
 rfl
theorem jL {t:TypeId}{d:TypeDesc}(hd:P.underlying t=some d)(hg:O5 d=false){cs:Array Value}{off:Nat}{v:Value}(hv:cs[off]? = some v) :
  (part t cs off).run P w = .ok v w:=by
 simp only [part,Sem.run_bind,jJ hd,hg,Result.andThen_ok,D8,if_false,hv]
 rfl
def TV (h:Nat→Option Obj)(P:Program)(t:TypeId)(cs:List D)(v:Value):Prop:=
 if J5 P t=true then ∃ us:Array Value,v = .agg us∧jV h cs us.toList else ∃ x,cs=[x]∧VD h x v
theorem bI:∀ {ts:List Y2} {zs:List D},K1 ts zs=true→zs.length=ts.length
 |[],[],_=>rfl
 |[],_::_,h=>by simp [K1] at h
 |_::_,[],h=>by simp [K1] at h
 |a::zs,b::bs,h=>by simp only [K1,A9] at h;simp [bI h.2]
theorem fK:∀ {ts ts':List Y2} {zs:List D},K1 (ts++ts') zs=true→K1 ts (zs.take ts.length)=true∧K1 ts' (zs.drop ts.length)=true
 |[],ts',zs,h=>by simpa [K1] using h
 |t::ts,ts',[],h=>by simp [K1] at h
 |t::ts,ts',a::zs,h=>by
  simp only [List.cons_append,K1,A9] at h
  have:=fK h.2
  simp only [A0,List.take_succ_cons,List.drop_succ_cons,K1,A9]
  exact⟨⟨h.1,this.1⟩,this.2⟩
theorem kM:∀ (n:Nat) {zs bs:List D},zs.length=bs.length→M5 zs bs=(M5 (zs.take n) (bs.take n)&&M5 (zs.drop n) (bs.drop n))
 |0,zs,bs,_=>by simp [M5]
 |n+1,[],[],_=>by simp [M5]
 |n+1,[],_::_,h=>by simp at h
 |n+1,_::_,[],h=>by simp at h
 |n+1,a::zs,b::bs,h=>by
  simp only [M5,List.take_succ_cons,List.drop_succ_cons]
  rw [kM n (by simpa using h),Bool.and_assoc]
theorem qM {t:TypeId}{fs:Array Field}(h:P.underlying t=some (.struct fs)):J5 P t=true:=by simp [J5,h,O5]
theorem PQ {t:TypeId}(ht:jZ P t=true){cs:List D}{us:Array Value}(h:jV g.h cs us.toList){off n:Nat}(hn:K2 P t=n)(hle:J5 P t=false→off+n≤cs.length)(h1:J5 P t=false→n=1) :
  ∃ v,(part t us off).run P w = .ok v w∧TV g.h P t ((cs.drop off).take n) v:=by
 obtain⟨d,info,hd,hinfo,hg,hs⟩:=R4 ht
 have hlen:=nJ h
 cases hagg:O5 d with
 |true=>
  rw [hagg] at hg
  refine⟨_,jK hd hinfo hagg,?_⟩
  simp only [TV,hg,if_true]
  refine⟨_,rfl,?_⟩
  have:=wJ (wI h off) n
  rw [← hs,hn]
  simpa [Array.toList_extract,List.extract_eq_take_drop] using this
 |false=>
  rw [hagg] at hg
  have hn1:=h1 hg
  have hle:=hle hg
  have hlt:off<us.toList.length:=by omega
  obtain⟨x,hx,hv⟩:=vE h (C2 hlt)
  refine⟨_,jL hd hagg (by rw [← D0];exact C2 hlt),?_⟩
  simp only [TV,hg,D8,if_false]
  refine⟨x,?_,hv⟩
  subst hn1
  have hlt':off<cs.length:=by omega
  rw [List.drop_eq_getElem_cons hlt']
  have:cs[off]=x:=by rw [C2 hlt'] at hx;simpa using hx
  simp [this]
theorem ER {t:TypeId}{l:Y2}{d:Nat}{zs bs:List D}{x y:Value}(hg:J5 P t=false)(ha:K1 [l] zs=true)(hb:K1 [l] bs=true)(hx:TV g.h P t zs x)(hy:TV g.h P t bs y)
  (hl:(P.underlying t=some .bool∧l = .bool)∨(∃ k,P.underlying t=some (.int k)∧l = .int k)∨(P.underlying t=some .string∧l = .str)) :
  (Op.equalIn (d+1) t x y).run P w = .ok (M5 zs bs) w:=by
 simp only [TV,hg,D8,if_false] at hx hy
 obtain⟨a,rfl,hx⟩:=hx
 obtain⟨b,rfl,hy⟩:=hy
 simp only [K1,Bool.and_true] at ha hb
 rcases hl with ⟨ht,rfl⟩|⟨k,ht,rfl⟩|⟨ht,rfl⟩
 ·match a,b,ha,hb with
  | .bool a,.bool b,_,_=>
   have hx:x = .bool a:=hx
   have hy:y = .bool b:=hy
   subst hx;subst hy
   rw [run_equalIn_bool' w d t a b ht];simp [M5,fA]
 ·match a,b,ha,hb with
  | .int k1 a,.int k2 b,ha,hb=>
   have hx:x = .int k1 a:=hx
   have hy:y = .int k2 b:=hy
   subst hx;subst hy
   have h1:k=k1:=by simpa [M0] using ha
   have h2:k=k2:=by simpa [M0] using hb
   subst h1;subst h2
   rw [run_equalIn_int w d t k k a b ht];simp [M5,fA]
 ·match a,b,ha,hb with
  | .str a,.str b,_,_=>
   obtain⟨a',rfl,rfl⟩:=hx
   obtain⟨b',rfl,rfl⟩:=hy
   rw [run_equalIn_string w d t a' b' ht];simp [M5,fA,ByteArray.toList_eq]
theorem US {n:Nat}{t:TypeId}{ts:List Y2}(h:rY P n t=some ts)(hg:J5 P t=false):ts.length=1:=by
 cases n with
 |zero=>simp [rY] at h
 |succ n=>
  simp only [rY] at h
  split at h
  ·cases h;rfl
  ·cases h;rfl
  ·cases h;rfl
  ·rename_i fs ht;rw [qM ht] at hg;cases hg
  ·cases h
theorem BW (n d:Nat)(ih:∀ {t:TypeId} {ts:List Y2} {zs bs:List D} {x y:Value},rY P n t=some ts→K1 ts zs=true→K1 ts bs=true→TV g.h P t zs x→TV g.h P t bs y→
   (Op.equalIn d t x y).run P w = .ok (M5 zs bs) w) {zs bs:List D} {xs ys:Array Value} (hx:jV g.h zs xs.toList) (hy:jV g.h bs ys.toList) :
  ∀ (fs:List Field) (off:Nat) (ts:List Y2),xM (rY P n) P off fs=some ts→K1 ts (zs.drop off)=true→K1 ts (bs.drop off)=true→
   (Op.eqFields d xs ys fs).run P w = .ok (M5 (zs.drop off) (bs.drop off)) w
 |[],off,ts,h,ha,hb=>by
  simp only [xM,B1] at h
  subst h
  have ha:=bI ha
  have hb:=bI hb
  rw [D3 ha,D3 hb]
  simp [Op.eqFields,M5]
 |f::fs,off,ts,h,ha,hb=>by
  simp only [xM] at h
  split at h
  ·rename_i ts1 h1
   obtain⟨hc,h⟩:=H3 h
   simp only [A9,decide_eq_true_eq] at hc
   obtain⟨⟨⟨hname,hoff⟩,hsz⟩,hok⟩:=hc
   have hoff:f.offset=off:=B0 hoff
   have hsz:K2 P f.type=ts1.length:=B0 hsz
   split at h
   ·rename_i ts2 h2
    simp only [B1] at h
    subst h
    obtain⟨a1,a2⟩:=fK ha
    obtain⟨b1,b2⟩:=fK hb
    have la:=bI ha
    have lb:=bI hb
    have hone:J5 P f.type=false→ts1.length=1:=US h1
    simp only [A7,F8] at la lb
    obtain⟨v1,p1,q1⟩:=PQ (w:=w) (off:=off) hok hx hsz (fun k=>by have:=hone k;omega) hone
    obtain⟨v2,p2,q2⟩:=PQ (w:=w) (off:=off) hok hy hsz (fun k=>by have:=hone k;omega) hone
    have he:=ih h1 a1 b1 q1 q2
    have hr:=BW n d ih hx hy fs (off+ts1.length) ts2 h2 (by rw [← List.drop_drop];exact a2) (by rw [← List.drop_drop];exact b2)
    simp only [Op.eqFields,hname,ne_eq,not_false_eq_true,if_true,hoff,Sem.run_bind,p1,p2,Result.andThen_ok,he]
    rw [kM (zs:=zs.drop off) (bs:=bs.drop off) ts1.length (by rw [F8,F8];omega),List.drop_drop,List.drop_drop]
    cases hq:M5 ((zs.drop off).take ts1.length) ((bs.drop off).take ts1.length) with
    |false=>simp
    |true=>simp [hr]
   ·cases h
  ·cases h
theorem gZ:∀ (n:Nat) {t:TypeId} {ts:List Y2} {d:Nat} {zs bs:List D} {x y:Value},rY P n t=some ts→n≤d→K1 ts zs=true→K1 ts bs=true→TV g.h P t zs x→TV g.h P t bs y→
  (Op.equalIn d t x y).run P w = .ok (M5 zs bs) w
 |0,_,_,_,_,_,_,_,h,_,_,_,_,_=>by simp [rY] at h
 |n+1,t,ts,0,zs,bs,x,y,h,hd,_,_,_,_=>by omega
 |n+1,t,ts,d+1,zs,bs,x,y,h,hd,ha,hb,hx,hy=>by
  simp only [rY] at h
  split at h
  ·rename_i ht
   cases h
   exact ER (by simp [J5,ht,O5]) ha hb hx hy (.inl ⟨ht,rfl⟩)
  ·rename_i k ht
   cases h
   exact ER (by simp [J5,ht,O5]) ha hb hx hy (.inr (.inl ⟨k,ht,rfl⟩))
  ·rename_i ht
   cases h
   exact ER (by simp [J5,ht,O5]) ha hb hx hy (.inr (.inr ⟨ht,rfl⟩))
  ·rename_i fs ht
   obtain⟨hp,h⟩:=I2 h
   have hg:=qM ht
   simp only [TV,hg,if_true] at hx hy
   obtain⟨xs,rfl,hx⟩:=hx
   obtain⟨ys,rfl,hy⟩:=hy
   have hfs:P.fieldsOf t=fs:=by simp [Program.fieldsOf,ht]
   rw [run_equalIn_agg w d t xs ys (by rw [hfs];exact ht) hp,hfs]
   exact BW n d (fun h1 h2 h3 h4 h5=>gZ n h1 (by omega) h2 h3 h4 h5) hx hy fs.toList 0 ts h ha hb
  ·cases h
theorem zW {t:TypeId}(h:M6 P t=true):∃ e,P.underlying t=some (.slice e):=by
 unfold M6 O6 at h
 split at h
 ·rename_i e he;exact⟨e,he⟩
 ·cases h
theorem P9 {op:BinOp}{t:TypeId}{x y:Operand}{A A':Option Addr}{l l' c c':Nat}:(eqGuard op t x y (.slice A l c) (.slice A' l' c')).run P w = .ok () w:=by
 cases op<;>rfl
theorem run_eql_slice_nil (w:World)(t e:TypeId)(a:Option Addr)(l c:Nat)(h:P.underlying t=some (.slice e)):(binOp .eql t (.slice a l c) (.slice none 0 0)).run P w = .ok (.bool a.isNone) w:=by
 simp only [binOp]
 simp [run_equal_slice_nil w t e a l c h]
theorem JG {R:Type}{n:Bool}{op:BinOp}{t:TypeId}{x y:D}{K:D→Option R}{r:R}(h:RZ P n op t x y K=some r):gL P op t x y K=some r:=by
 unfold RZ at h
 cases hc:(n&&M6 P t&&Im x y) with
 |false=>rw [hc] at h;exact h
 |true=>
  rw [hc,cond_true] at h
  simp only [A9] at hc
  have hl:=hc.2
  unfold Im at hl
  split at hl
  ·rename_i sz xs a b
   simp only [D.l] at h
   cases he:xs.isEmpty with
   |true=>rw [he] at h;cases h
   |false=>
    rw [he,cond_false] at h
    simp only [gL,hc.1.2,he,cond_true,cond_false]
    exact h
  ·cases hl
theorem WX (S:At u p g st a w)(hpq:∀ x,p x→q x){x y:Operand}{op:BinOp}{t:TypeId}{b:Bool}{d e:D}(ho:∃ z,o.op = .binOp op t x y z)(hx:I1 st x = .d d)(hy:I1 st y = .d e)
  (h:gL P op t d e (fun z=>K (.d z) st)=some r):Goal u p q g st a w P o K r:=by
 obtain⟨zz,ho⟩:=ho
 have hvx:=S.ev x
 have hvy:=S.ev y
 rw [hx] at hvx
 rw [hy] at hvy
 have run:∀ v,(eqGuard op t x y (a.eval x) (a.eval y)).run P w = .ok () w→(binOp op t (a.eval x) (a.eval y)).run P w = .ok v w→(execOp a.eval o).run P w = .ok (.value v) w:=by
  intro v h1 h2
  simp only [execOp,ho]
  simp [h1,h2]
 unfold gL at h
 split at h
 ·rename_i k n k' m
  have hvx:a.eval x = .int k n:=hvx
  have hvy:a.eval y = .int k' m:=hvy
  rw [hvx,hvy] at run
  split at h
  ·obtain⟨hm,h⟩:=I2 h
   have hm:¬ m<0:=E9 hm
   refine Goal.val S hpq h (run (.int k (k.wrap (n*2 ^ (min m.toNat k.bits)))) kK ?_) rfl trivial
   simp [binOp,Op.shift,hm]
  ·obtain⟨hm,h⟩:=I2 h
   have hm:¬ m<0:=E9 hm
   refine Goal.val S hpq h (run (.int k (n.fdiv (2 ^ (min m.toNat k.bits)))) kK ?_) rfl trivial
   simp [binOp,Op.shift,hm]
  ·rename_i h1 h2
   replace h:=H3 h
   obtain⟨hk,h⟩:=h
   have hk:k=k':=E7 hk
   subst hk
   obtain⟨z,v,k1,k2,k3⟩:=LX (P:=P) (w:=w) (g:=g) (t:=t) h ⟨h1,h2⟩
   exact Goal.val S hpq k1 (run v kK k2) k3 trivial
 ·rename_i s s'
  obtain⟨b1,hb1,rfl⟩:=hvx
  obtain⟨b2,hb2,rfl⟩:=hvy
  rw [hb1,hb2] at run
  obtain⟨z,v,k1,k2,k3⟩:=NN (P:=P) (w:=w) (g:=g) (t:=t) h
  exact Goal.val S hpq k1 (run v IE k2) k3 trivial
 ·rename_i b1 b2
  have hvx:a.eval x = .bool b1:=hvx
  have hvy:a.eval y = .bool b2:=hvy
  rw [hvx,hvy] at run
  split at h
  ·rename_i ht
   have hb:=HU (P:=P) (w:=w) (t:=t) (b:=b1) (b':=b2) ht (op:=op)
   split at h
   ·exact Goal.val S hpq h (run _ qC hb.1) rfl trivial
   ·exact Goal.val S hpq h (run _ qC hb.2) rfl trivial
   ·cases h
  ·cases h
 ·rename_i zs bs
  obtain⟨xs,hvx,hxs⟩:=hvx
  obtain⟨ys,hvy,hys⟩:=hvy
  rw [hvx,hvy] at run
  obtain⟨hc,h⟩:=H3 h
  simp only [A9,E1] at hc
  obtain⟨⟨hg,hm⟩,hc⟩:=hc
  split at hc
  ·rename_i ts hts
   simp only [A9] at hc
   have he:=gZ (P:=P) (w:=w) 8 (d:=10000) hts (by omega) hc.1 hc.2 (by simp only [TV,hg,if_true];exact⟨xs,rfl,hxs⟩) (by simp only [TV,hg,if_true];exact⟨ys,rfl,hys⟩)
   split at h
   ·refine Goal.val S hpq h (run _ (run_eqGuard_agg w _ t x y xs ys hm) ?_) rfl trivial
    rw [run_eql_struct w t xs ys,he];rfl
   ·refine Goal.val S hpq h (run _ (run_eqGuard_agg w _ t x y xs ys hm) ?_) rfl trivial
    rw [run_neq_struct w t xs ys,he];rfl
   ·cases h
  ·cases hc
 ·rename_i sz xs e1 e2
  obtain⟨A,cap,hvx,_,_,hA⟩:=hvx
  have hvy:a.eval y = .slice none 0 0:=hvy
  rw [hvx,hvy] at run
  obtain⟨ht,h⟩:=H3 h
  obtain⟨e,ht⟩:=zW ht
  cases hxs:xs.isEmpty with
  |true=>
   simp only [hxs,cond_true] at h
   split at h
   ·exact Goal.val S hpq h (run _ P9 (run_eql_slice_nil w t e A xs.length cap ht)) ⟨_,rfl⟩ trivial
   ·exact Goal.val S hpq h (run _ P9 (run_neq_slice_nil w t e A xs.length cap ht)) ⟨_,rfl⟩ trivial
   ·cases h
  |false=>
   simp only [hxs,cond_false] at h
   have hne:xs≠[]:=fun e=>by rw [e] at hxs;cases hxs
   obtain⟨ad,rfl,_⟩:=hA.resolve_left hne
   split at h
   ·exact Goal.val S hpq h (run _ P9 (run_eql_slice_nil w t e (some ad) xs.length cap ht)) rfl trivial
   ·exact Goal.val S hpq h (run _ P9 (run_neq_slice_nil w t e (some ad) xs.length cap ht)) rfl trivial
   ·cases h
 ·have hvx:a.eval x = .slice none 0 0:=hvx
  have hvy:a.eval y = .slice none 0 0:=hvy
  rw [hvx,hvy] at run
  obtain⟨ht,h⟩:=H3 h
  obtain⟨e,ht⟩:=zW ht
  split at h
  ·exact Goal.val S hpq h (run _ P9 (run_eql_slice_nil w t e none 0 0 ht)) rfl trivial
  ·exact Goal.val S hpq h (run _ P9 (run_neq_slice_nil w t e none 0 0 ht)) rfl trivial
  ·cases h
 ·cases h
theorem XD (S:At u p g st a w)(hpq:∀ x,p x→q x){x y:Operand}{op:BinOp}{t:TypeId}{b:Bool}{no i m1 m2:Nat}(ho:∃ z,o.op = .binOp op t x y z)(hx:I1 st x = .ir no i)(hy:I1 st y = .d (.nils m1 m2))
  (h:(bif M6 P t&&(inner st.h no i).isSome then (match op with | .eql=>K (.d (.bool false)) st | .neq=>K (.d (.bool true)) st|_=>none) else none)=some r):Goal u p q g st a w P o K r:=by
 obtain⟨zz,ho⟩:=ho
 have hvx:=S.ev x
 have hvy:=S.ev y
 rw [hx] at hvx
 rw [hy] at hvy
 have run:∀ v,(eqGuard op t x y (a.eval x) (a.eval y)).run P w = .ok () w→(binOp op t (a.eval x) (a.eval y)).run P w = .ok v w→(execOp a.eval o).run P w = .ok (.value v) w:=by
  intro v h1 h2
  simp only [execOp,ho]
  simp [h1,h2]
 obtain⟨hc,h⟩:=H3 h
 simp only [A9,Option.isSome_iff_exists] at hc
 obtain⟨ht,⟨sz,ys⟩,hin⟩:=hc
 obtain⟨e,ht⟩:=zW ht
 have hvx:g.ihdr no i=some (a.eval x)∧_:=hvx
 obtain⟨f,ie,xs,vs,_,_,_,hne,_,k1,_⟩:=eM S.hp hin hvx.2.2 hvx.1
 have hvy:a.eval y = .slice none 0 0:=hvy
 rcases J0 k1 with ⟨_,h2,_⟩|⟨b,cap,cur,h1,_⟩
 ·exact absurd (D3 h2) hne
 ·rw [h1,hvy] at run
  split at h
  ·exact Goal.val S hpq h (run _ P9 (run_eql_slice_nil w t e (some ⟨b,0,none⟩) ys.length cap ht)) rfl trivial
  ·exact Goal.val S hpq h (run _ P9 (run_neq_slice_nil w t e (some ⟨b,0,none⟩) ys.length cap ht)) rfl trivial
  ·cases h
theorem zK:∀ (ns:List Int) (s:ByteArray),(ns.foldl (fun r n=>r.push (UInt8.ofNat n.toNat)) s).data.toList=s.data.toList++ns.map fun n=>UInt8.ofNat n.toNat
 |[],s=>by simp
 |n::ns,s=>by
  rw [List.foldl_cons,zK ns]
  simp [ByteArray.push]
theorem tU:∀ {xs:List D} {us:List Value} {sz:Nat},aT g.h sz xs us→eV xs=true→∃ ns:List Int,us=ns.map (Value.int .u8)∧xs.map toByte=ns.map fun n=>UInt8.ofNat n.toNat
 |[],us,sz,h,_=>⟨[],h,rfl⟩
 |x::xs,us,sz,h,hb=>by
  obtain⟨v,r,rfl,h1,h3,h4,h5⟩:=h
  match x,hb,h4 with
  | .int .u8 n,hb,h4=>
   have h4:v = .int .u8 n:=h4
   subst h4
   obtain⟨ns,rfl,e⟩:=tU h5 (by simpa [eV] using hb)
   exact⟨n::ns,rfl,by simp [toByte,e]⟩
theorem MR (S:At u p g st a w)(hpq:∀ x,p x→q x){x:Operand}{src dst:TypeId}(ho:o.op = .convert src dst x)
  (h:(match P.underlying src,P.underlying dst,I1 st x with
  |some (.int _),some (.int k),.d (.int _ n)=>K (.d (.int k (k.wrap n))) st
  |some (.int _),some .string,.d (.int _ n)=>bif decide (0≤n)&&decide (n<128) then K (.d (.str [UInt8.ofNat n.toNat])) st else none
  |some .string,some .string,.d (.str s)=>K (.d (.str s)) st
  |some (.slice e),some .string,x=>(match P.underlying e with
   |some (.int .u8)=>(match yR st.h x with
    |some (_,xs)=>bif eV xs then K (.d (.str (xs.map toByte))) st else none
    |none=>none)
   |_=>none)
  |_,_,_=>none)=some r):Goal u p q g st a w P o K r:=by
 have hv:=S.ev x
 have run:∀ v,(convert src dst (a.eval x)).run P w = .ok v w→(execOp a.eval o).run P w = .ok (.value v) w:=by
  intro v h1
  simp only [execOp,ho]
  simp [h1]
 split at h
 ·rename_i k n hs hd he
  rw [he] at hv
  have hv:=dU hv
  refine Goal.val S hpq h (run _ ?_) rfl trivial
  rw [hv]
  simp [convert,run_underlying hs,run_underlying hd,Conv.intToInt]
 ·rename_i k n hs hd he
  rw [he] at hv
  have hv:=dU hv
  obtain⟨hb,h⟩:=H3 h
  simp only [A9,decide_eq_true_eq] at hb
  refine Goal.val S hpq h (run (.string ⟨#[UInt8.ofNat n.toNat]⟩) ?_) ⟨_,rfl,rfl⟩ trivial
  have e:Utf8.encode n=⟨#[UInt8.ofNat n.toNat]⟩:=by
   have h1:Utf8.valid n=true:=by
    unfold Utf8.valid
    simp
    omega
   unfold Utf8.encode
   simp only [h1,if_true]
   rw [if_pos (by omega)]
  rw [hv]
  simp [convert,run_underlying hs,run_underlying hd,Conv.intToString,e]
 ·rename_i s hs hd he
  rw [he] at hv
  obtain⟨b,hb,rfl⟩:=hv
  refine Goal.val S hpq h (run (.string b) ?_) ⟨b,rfl,rfl⟩ trivial
  rw [hb]
  simp [convert,run_underlying hs,run_underlying hd]
 ·rename_i e hs hd
  split at h
  ·rename_i he
   split at h
   ·rename_i sz xs hl
    obtain⟨hab,h⟩:=H3 h
    obtain⟨A,cap,us,hA,h2,h3,h4,h5⟩:=iV S.hp hv hl
    obtain⟨ns,hns,hmap⟩:=tU h4 hab
    rw [hA] at run
    have hlen:xs.length=ns.length:=by have:=congrArg List.length hmap;simpa using this
    rw [run_convert_bytes_string w src dst e A xs.length cap hs he hd] at run
    rcases h5 with rfl|⟨ad,rfl,h5⟩
    ·have hns0:ns=[]:=D3 (by rw [← hlen];rfl)
     cases A with
     |none=>
      exact Goal.val S hpq h (run (.string .empty) (by simp [Conv.bytesToString])) ⟨_,rfl,rfl⟩ trivial
     |some ad=>
      refine Goal.val S hpq h (run (.string .empty) ?_) ⟨_,rfl,rfl⟩ trivial
      exact run_bytesToString w ad 0 cap [] (run_loadCells_list w ad [] (by simp))
    ·refine Goal.val S hpq h (run _ (run_bytesToString w ad xs.length cap ns ?_)) ⟨_,rfl,?_⟩ trivial
     ·have:=run_loadCells_list (P:=P) w ad us h5
      rw [hns] at this
      rw [hlen]
      simpa using this
     ·rw [zK,hmap];rfl
   ·cases h
  ·cases h
 ·cases h
theorem GA (S:At u p g st a w)(hpq:∀ x,p x→q x){x i:Operand}{t:TypeId}(ho:o.op = .indexAddr t x i)
  (h:X5 P t (I1 st x) (I1 st i) st K=some r):Goal u p q g st a w P o K r:=by
 have hvx:=S.ev x
 have hvi:=S.ev i
 have hus:=S.L7 x
 unfold X5 at h
 obtain⟨hc,h⟩:=I2 h
 rw [Bool.not_eq_false'] at hc
 have hel:∃ e,O6 P t=some e∧jZ P e=true:=by
  split at hc
  all_goals first
   |(simp only [A9] at hc;exact⟨_,by assumption,hc.1⟩)
   |cases hc
 obtain⟨e,hel,hok⟩:=hel
 obtain⟨d,info,hd,hinfo,_,hsz⟩:=R4 hok
 have hslice:P.underlying t=some (.slice e):=by
  unfold O6 at hel
  split at hel
  ·rename_i e' he;cases hel;exact he
  ·cases hel
 have hE:P.elem t=e:=by simp [Program.elem,hslice]
 have run:∀ (ad:Addr) (len cap:Nat) (k:IntKind) (n:Int),a.eval x = .slice (some ad) len cap→a.eval i = .int k n→0≤n→n<len→
   (execOp a.eval o).run P w = .ok (.value (.pointer (some (ad.add (n.toNat*K2 P e))))) w:=by
  intro ad len cap k n e1 e2 h1 h2
  simp only [execOp,ho,e1,e2]
  simp [run_indexAt_slice w t ad len cap k n (by rw [hE];exact hslice),h1,h2,hE,R3 hinfo,hsz]
 split at h
 ·rename_i k n hi
  rw [hi] at hvi
  have hvi:=dU hvi
  split at h
  ·rename_i sz xs hx
   rw [hx] at hvx hc
   rw [hel] at hc
   simp only [A9] at hc
   have hs:K2 P e=sz:=(B0 hc.2).symm
   obtain⟨hb,h⟩:=H3 h
   simp only [A9,decide_eq_true_eq] at hb
   obtain⟨A,cap,hA,_,_,hr⟩:=hvx
   have hne:xs≠[]:=by intro e';rw [e'] at hb;simp at hb;omega
   rcases hr with hr|⟨ad,rfl,hr⟩
   ·exact absurd hr hne
   ·refine Goal.val S hpq h (run ad _ _ k n hA hvi hb.1 hb.2) ?_ trivial
    exact⟨ad,hr,by omega,by rw [hs,Nat.add_zero]⟩
  ·rename_i ro hx
   rw [hx] at hvx hc hus
   split at h
   ·rename_i e' sz xs fz hrow
    rw [hel] at hc
    simp only [hrow,A9] at hc
    have hs:K2 P e=sz:=(B0 hc.2).symm
    obtain⟨hb,h⟩:=H3 h
    simp only [A9,decide_eq_true_eq] at hb
    have hvx:a.eval x=g.hdr ro:=hvx.1
    rcases qI S.hp hrow with ⟨h1,rfl⟩|⟨b,cap,h1,h2,h3⟩
    ·simp at hb;omega
    ·rw [h1] at hvx
     refine Goal.val S hpq h (run _ _ _ k n hvx hvi hb.1 hb.2) ?_ hus
     refine⟨by rw [h1];simp only [X4];omega,b,by rw [h1];rfl,?_⟩
     rw [H8,hs];simp
   ·rename_i e' ie sz xs hrow
    rw [hel] at hc
    simp only [hrow,A9] at hc
    have hs:K2 P e=1:=(B0 hc.2).symm
    replace h:=H3 h
    obtain⟨hb,h⟩:=h
    simp only [A9,decide_eq_true_eq] at hb
    have hvx:a.eval x=g.hdr ro:=hvx.1
    obtain⟨_,⟨us,k1,_⟩,_⟩:=S.hp.ob _ _ hrow
    rcases J0 k1 with ⟨_,h2,_⟩|⟨b,cap,cur,h1,_⟩
    ·omega
    ·rw [h1] at hvx
     refine Goal.val S hpq h (run _ _ _ k n hvx hvi hb.1 hb.2) ?_ hus
     refine⟨by rw [h1];simp only [X4];omega,b,by rw [h1];rfl,?_⟩
     rw [H8,hs];simp
   ·cases h
  ·rename_i ro k' hx
   rw [hx] at hvx hc hus
   split at h
   ·rename_i sz ys hin
    rw [hel] at hc
    simp only [hin,A9] at hc
    have hs:K2 P e=sz:=(B0 hc.2).symm
    replace h:=H3 h
    obtain⟨hb,h⟩:=h
    simp only [A9,decide_eq_true_eq] at hb
    obtain⟨f,ie,xs,vs,_,_,_,_,_,k1,_⟩:=eM S.hp hin hvx.2.2 hvx.1
    have hih:=hvx.1
    rcases J0 k1 with ⟨_,h2,_⟩|⟨b,cap,cur,h1,_⟩
    ·omega
    ·rw [h1] at hih
     refine Goal.val S hpq h (run _ _ _ k n h1 hvi hb.1 hb.2) ?_ hus
     refine⟨hvx.2.2,_,b,hih,by simp only [X4];omega,rfl,?_⟩
     rw [H8,hs];simp
   ·cases h
  ·rename_i ro z lo m hx
   rw [hx] at hvx hc hus
   split at h
   ·rename_i e' sz xs fz hrow
    rw [hel] at hc
    simp only [A9] at hc
    have hs:K2 P e=z:=(B0 hc.2).symm
    obtain⟨hb,h⟩:=H3 h
    simp only [A9,decide_eq_true_eq] at hb
    obtain⟨⟨hz,hb1⟩,hb2⟩:=hb
    have hz:z=sz:=B0 hz
    obtain⟨hln,A,cap,hvx,_,_,hA⟩:=hvx
    rcases hA with rfl|⟨b,hbk,rfl⟩
    ·omega
    ·refine Goal.val S hpq h (run _ _ _ k n hvx hvi hb1 hb2) ?_ hus
     refine⟨by omega,b,hbk,?_⟩
     rw [H8,hs,← hz,Nat.add_zero,Nat.add_mul]
   ·cases h
  ·cases h
 ·cases h
theorem HS {x:V}{v:Value}(h:VV g x v):VL g (bB x) v:=by
 match x with
 | .tup _=>exact (trivial:VD g.h .top _)
 | .agg _=>exact (trivial:VD g.h .top _)
 | .fn f []=>exact h
 | .fn f (_::_)=>exact (trivial:VD g.h .top _)
 | .d x=>exact h
 | .ptr o off=>exact h
 | .el sz xs i off=>exact h
 | .rp o sz i off=>exact h
 | .row o=>exact h
 | .bp ..=>exact (trivial:VD g.h .top _)
 | .mp o=>exact h
 | .ir ..=>exact h
 | .irp ..=>exact h
 | .sub o sz lo n=>exact h
theorem BH {x:V}(h:x.K5 p):(bB x).aS p:=by
 match x with
 | .agg _=>trivial
 | .fn f []=>trivial
 | .fn f (_::_)=>trivial
 | .tup _=>trivial
 | .d x=>trivial
 | .ptr o off=>exact h
 | .el sz xs i off=>trivial
 | .rp o sz i off=>exact h
 | .row o=>exact h
 | .mp o=>exact h
 | .ir ..=>exact h
 | .irp ..=>exact h
 | .bp ..=>trivial
 | .sub o sz lo n=>exact h
theorem JL (S:At u p g st a w)(hpq:∀ x,p x→q x){f:FuncId}{first captured:Array Operand}(ho:o.op = .makeFunc (.func f) first captured)
  (h:(bif captured.isEmpty&&first.isEmpty then K (.d (.fn f)) st else bif first.isEmpty then K (.fn f (captured.toList.map fun x=>bB (I1 st x))) st else none)=some r):Goal u p q g st a w P o K r:=by
 have run:first=#[]→(execOp a.eval o).run P w = .ok (.value (.func (.func f) #[] (captured.map a.eval))) w:=by
  intro e
  subst e
  simp [execOp,ho,Instr.makeFunc]
 cases hb:(captured.isEmpty&&first.isEmpty) with
 |true=>
  rw [hb] at h
  simp only [A9,Array.isEmpty_iff] at hb
  obtain⟨rfl,hf⟩:=hb
  exact Goal.val S hpq h (run hf) (show Value.func _ _ _=_ by simp) trivial
 |false=>
  rw [hb] at h
  replace h:=H3 h
  obtain⟨hf,h⟩:=h
  have hf:first=#[]:=by simpa using hf
  have hF:∀ xs:List Operand,F2 (VL g) (xs.map fun x=>bB (I1 st x)) (xs.map a.eval):=by
   intro xs
   induction xs with
   |nil=>exact .nil
   |cons x xs ih=>exact .cons (HS (S.ev x)) ih
  refine Goal.val S hpq h (run hf) ?_ ?_
  ·cases hc:captured.toList with
   |nil=>rw [hf] at hb;simp at hb;exact absurd (by simpa using hc) hb
   |cons x xs=>
    refine⟨captured.map a.eval,rfl,?_⟩
    have:=hF captured.toList
    rw [hc] at this
    simpa [hc] using this
  ·intro v hv
   obtain⟨x,_,rfl⟩:=List.mem_map.1 hv
   exact BH (S.L7 x)
theorem KW {cs:List V}{v:Value}(h:VV g (.agg cs) v):∃ us:Array Value,v = .agg us∧F2 (VL g) cs us.toList:=h
theorem aV {x:V}{v:Value}(h:VL g x v)(hx:x.aS p):x.K7 p:=by
 match x,hx with
 | .agg _,_=>exact h.elim
 | .fn _ [],_=>intro v hv;cases hv
 | .fn _ (_::_),_=>exact h.elim
 | .tup _,_=>exact h.elim
 | .d _,_=>trivial
 | .ptr ..,k=>exact k
 | .el ..,_=>trivial
 | .rp ..,k=>exact k
 | .row _,k=>exact k
 | .mp _,k=>exact k
 | .ir ..,k=>exact k
 | .irp ..,k=>exact k
 | .bp ..,k=>exact k
 | .sub ..,k=>exact k
theorem F2.mem {α β:Type}{R:α→β→Prop}{zs:List α}{bs:List β}(h:F2 R zs bs):∀ x∈zs,∃ b∈bs,R x b:=by
 induction h with
 |nil=>intro x hx;cases hx
 |cons hr _ ih=>
  intro x hx
  rcases B7.1 hx with rfl|hx
  ·exact⟨_,by simp,hr⟩
  ·obtain⟨b,h1,h2⟩:=ih x hx;exact⟨b,by simp [h1],h2⟩
theorem XB (S:At u p g st a w)(hpq:∀ x,p x→q x){x:Operand}{t ft:TypeId}{k off:Nat}(ho:o.op = .field t x k)(hf:nU P t k=some (off,ft))(hok:jZ P ft=true)
  (h:(match I1 st x with
   | .d (.agg cs)=>bif Nat.ble (off+K2 P ft) cs.length then (bif J5 P ft then K (.d (.agg ((cs.drop off).take (K2 P ft)))) st else (match cs[off]? with|some z=>K (.d z) st|none=>none)) else none
   | .agg cs=>bif Nat.ble (off+K2 P ft) cs.length then (bif J5 P ft then K (T8 ((cs.drop off).take (K2 P ft))) st else (match cs[off]? with|some z=>K z st|none=>none)) else none
   |_=>none)=some r):Goal u p q g st a w P o K r:=by
 obtain⟨fs,f,hu,hfk,rfl,rfl⟩:=kN hf
 obtain⟨d,info,hd,hinfo,hg,hsz⟩:=R4 hok
 have hv:=S.ev x
 have hus:=S.L7 x
 have run:∀ (us:Array Value) (v:Value),a.eval x = .agg us→(part f.type us f.offset).run P w = .ok v w→(execOp a.eval o).run P w = .ok (.value v) w:=by
  intro us v e1 e2
  simp only [execOp,ho,Instr.field,e1]
  simp [run_underlying hu,hfk,asAgg,e2]
 split at h
 ·rename_i cs he
  rw [he] at hv
  obtain⟨us,hus',hvs⟩:=hv
  obtain⟨hle,h⟩:=H3 h
  cases hagg:O5 d with
  |true=>
   rw [hagg] at hg
   rw [hg] at h
   refine Goal.val S hpq h (run us _ hus' (jK hd hinfo hagg)) ?_ trivial
   refine⟨_,rfl,?_⟩
   have:=wJ (wI hvs f.offset) (K2 P f.type)
   rw [← hsz]
   simpa [Array.toList_extract,List.extract_eq_take_drop] using this
  |false=>
   rw [hagg] at hg
   rw [hg] at h
   simp only [cond_false] at h
   split at h
   ·rename_i z hz
    have hlt:f.offset<us.toList.length:=by
     rw [← nJ hvs];exact (List.getElem?_eq_some_iff.1 hz).1
    obtain⟨y,hy,hyv⟩:=vE hvs (C2 hlt)
    rw [hz] at hy
    cases hy
    exact Goal.val S hpq h (run us _ hus' (jL hd hagg (by rw [← D0];exact C2 hlt))) hyv trivial
   ·cases h
 ·rename_i cs he
  rw [he] at hv hus
  obtain⟨us,hus',hvs⟩:=KW hv
  have hcu:∀ c∈cs,c.K7 p:=fun c hc=>by
   obtain⟨b,_,hb⟩:=hvs.mem c hc
   exact aV hb (hus c hc)
  obtain⟨hle,h⟩:=H3 h
  cases hagg:O5 d with
  |true=>
   rw [hagg] at hg
   rw [hg] at h
   refine Goal.val S hpq h (run us _ hus' (jK hd hinfo hagg)) ?_ (O2 (cD fun c hc=>hcu c (List.mem_of_mem_drop (List.mem_of_mem_take hc))))
   have:=hY (((hvs.drop f.offset).take (K2 P f.type)).mono fun c _ b hb=>W6 hb)
   rw [← hsz]
   have e:us.extract f.offset (f.offset+K2 P f.type)=((us.toList.drop f.offset).take (K2 P f.type)).toArray:=by
    apply Array.ext'
    simp [Array.toList_extract,List.extract_eq_take_drop]
   rw [e]
   exact P1 this
  |false=>
   rw [hagg] at hg
   rw [hg] at h
   simp only [cond_false] at h
   split at h
   ·rename_i z hz
    obtain⟨v,hv1,hv2⟩:=hvs.get f.offset z hz
    exact Goal.val S hpq h (run us _ hus' (jL hd hagg (by rw [← D0];exact hv1))) (P1 (W6 hv2)) (O2 (hcu z (List.mem_of_getElem? hz)))
   ·cases h
 ·cases h
end
end Go.AE
namespace Go.AE
open Go.RowKit
section
variable {u:Nat→Option Obj} {p q:Nat→Prop} {g:G} {st:St} {a:Act} {w:World} {P:Program} {o:Oper} {R:Type} {K:V→St→Option R} {r:R}
theorem kX (S:At u p g st a w){x:Option Operand}{d n:Int}(h:aI d (x.map (I1 st))=some n):(x=none∧n=d)∨∃ y k,x=some y∧a.eval y = .int k n:=by
 cases x with
 |none=>simp only [Option.map_none,aI,B1] at h;exact .inl ⟨rfl,h.symm⟩
 |some y=>
  right
  simp only [Option.map_some] at h
  have hv:=S.ev y
  match he:I1 st y with
  | .d (.int k m)=>
   rw [he] at h hv
   simp only [aI,B1] at h
   subst h
   exact⟨y,k,rfl,hv⟩
  | .d .top | .d (.bool _) | .d (.str _) | .d (.Z ..) | .d (.nils ..) | .d .und | .d (.agg _) | .d (.fn _) | .d .nilp | .d .nilf | .d .nilm | .d .nili | .d .ub | .d (.iface ..) | .d (.meth ..)=>rw [he] at h;simp [aI] at h
  | .ptr .. | .el .. | .rp .. | .row _ | .sub .. | .agg _ | .fn .. | .tup _ | .mp _ | .bp .. | .ir .. | .irp ..=>rw [he] at h;simp [aI] at h
theorem eJ (S:At u p g st a w){lo hi:Option Operand}{l h:Int}{b:Bool}{len cap:Nat}(hlo:aI 0 (lo.map (I1 st))=some l)(hhi:aI len (hi.map (I1 st))=some h)
  (h1:0≤l) (h2:l≤h) (h3:h≤len) (hc:len≤cap) :
  (Instr.sliceBounds b len cap (lo.map a.eval) (hi.map a.eval) none).run P w = .ok (l.toNat,h.toNat,cap) w:=by
 have hh:∀ code,(match (hi.map a.eval:Option Value),(none:Option Value) with
  |some v,some _=>(stuck "":Sem Nat)
  |some v,none=>Instr.sliceBound v cap code
  |none,none=>pure len
  |none,some _=>stuck "").run P w = .ok h.toNat w:=by
  intro code
  rcases kX S hhi with ⟨rfl,rfl⟩|⟨y,k,rfl,hy⟩
  ·simp
  ·simp only [Option.map_some,hy]
   rw [run_sliceBound w k h cap code (by omega) (by omega)]
 have hcap:l≤(h.toNat:Int):=by omega
 rcases kX S hhi with ⟨rfl,rfl⟩|⟨y,k,rfl,hy⟩<;>rcases kX S hlo with ⟨rfl,rfl⟩|⟨y',k',rfl,hy'⟩
 ·simp [Instr.sliceBounds]
 ·simp only [Instr.sliceBounds,Option.map_none,Option.map_some,hy',Sem.run_bind,Sem.run_pure,Result.andThen_ok]
  rw [run_sliceBound w k' l len _ h1 (by omega)]
  simp
 ·simp only [Instr.sliceBounds,Option.map_none,Option.map_some,hy,Sem.run_bind,Sem.run_pure,Result.andThen_ok]
  rw [run_sliceBound w k h cap _ (by omega) (by omega)]
  simp
 ·simp only [Instr.sliceBounds,Option.map_some,hy,hy',Sem.run_bind,Sem.run_pure,Result.andThen_ok]
  rw [run_sliceBound w k h cap _ (by omega) (by omega)]
  simp only [Result.andThen_ok]
  rw [run_sliceBound w k' l h.toNat _ h1 (by omega)]
  simp
theorem X2 {t e:TypeId}(h:O6 P t=some e):P.underlying t=some (.slice e):=by
 unfold O6 at h
 split at h
 ·rename_i e' he;cases h;exact he
 ·cases h
theorem bN {t e:TypeId}(ht:P.underlying t=some (.slice e))(hok:jZ P e=true){A:Option Addr}{len cap l h:Nat}{lo hi:Option Value}
  (hb:(Instr.sliceBounds true len cap lo hi none).run P w = .ok (l,h,cap) w) :
  (Instr.sliceAt t (.slice A len cap) lo hi none).run P w = .ok (.slice (if cap=l then A else A.map (·.add (l*K2 P e))) (h-l) (cap-l)) w:=by
 obtain⟨d,info,hd,hinfo,hg,hsz⟩:=R4 hok
 simp only [Instr.sliceAt,Sem.run_bind,run_underlying ht,Result.andThen_ok,Instr.slice]
 simp [hb,R3 hinfo,hsz]
theorem BE {t:TypeId}(ht:P.underlying t=some .string){s:ByteArray}{l h:Nat}{lo hi:Option Value}
  (hb:(Instr.sliceBounds false s.size s.size lo hi none).run P w = .ok (l,h,s.size) w) :
  (Instr.sliceAt t (.string s) lo hi none).run P w = .ok (.string (s.extract l h)) w:=by
 simp only [Instr.sliceAt,Sem.run_bind,run_underlying ht,Result.andThen_ok,Instr.slice]
 simp [hb]
theorem TO {hh:Nat→Option Obj}{sz:Nat}{xs:List D}{ad:Addr}(h:HG hh sz xs ad)(n:Nat):HG hh sz (xs.drop n) (ad.add (n*sz)):=by
 obtain⟨us,h1,h2⟩:=gT h
 refine aJ (fun _ _ h=>h) (eR n h1) fun j v hj=>?_
 rw [List.getElem?_drop] at hj
 rw [O3]
 exact h2 _ v hj
theorem TP {hh:Nat→Option Obj}{sz:Nat}{xs:List D}{ad:Addr}(h:HG hh sz xs ad)(n:Nat):HG hh sz (xs.take n) ad:=by
 obtain⟨us,h1,h2⟩:=gT h
 refine aJ (fun _ _ h=>h) (cV n h1) fun j v hj=>?_
 rw [List.getElem?_take] at hj
 split at hj
 ·exact h2 _ v hj
 ·cases hj
theorem XG (S:At u p g st a w)(hpq:∀ x,p x→q x){x:Operand}{lo hi mx:Option Operand}{t:TypeId}(ho:o.op = .slice t x lo hi mx)
  (h:lE P t (I1 st x) (lo.map (I1 st)) (hi.map (I1 st)) (mx.map (I1 st)) st K=some r):Goal u p q g st a w P o K r:=by
 have hv:=S.ev x
 have hus:=S.L7 x
 unfold lE at h
 cases mx with
 |some m=>cases h
 |none=>
  simp only [Option.map_none] at h
  obtain⟨hc,h⟩:=I2 h
  rw [Bool.not_eq_false'] at hc
  have run:∀ v,(Instr.sliceAt t (a.eval x) (lo.map a.eval) (hi.map a.eval) none).run P w = .ok v w→(execOp a.eval o).run P w = .ok (.value v) w:=by
   intro v e
   simp only [execOp,ho,Option.map_none]
   simp [e]
  split at h
  ·rename_i s he
   rw [he] at hc hv
   have ht:P.underlying t=some .string:=by
    split at hc
    ·assumption
    all_goals first|cases hc|(rename_i h1 h2;cases h2)
   obtain⟨b,hb,rfl⟩:=hv
   split at h
   ·rename_i l hh hl hhi
    obtain⟨hcond,h⟩:=H3 h
    simp only [A9,decide_eq_true_eq] at hcond
    obtain⟨⟨h1,h2⟩,h3⟩:=hcond
    have hlen:b.data.toList.length=b.size:=E4
    rw [hlen] at hhi h3
    have hbd:=eJ (P:=P) (b:=false) S hl hhi h1 h2 h3 (B9 _)
    rw [hb] at run
    refine Goal.val S hpq h (run _ (BE ht hbd)) ⟨_,rfl,?_⟩ trivial
    simp [ByteArray.data_extract,Array.toList_extract,List.extract_eq_take_drop]
   ·cases h
  ·rename_i sz xs he
   rw [he] at hc hv
   split at hc
   ·rename_i h2;cases h2
   ·rename_i e sz' xs' ht he'
    cases he'
    simp only [A9] at hc
    have hs:K2 P e=sz:=(B0 hc.2).symm
    obtain⟨A,cap,hA,hn,hcm,hr⟩:=hv
    split at h
    ·rename_i l hh hl hhi
     obtain⟨hcond,h⟩:=H3 h
     simp only [A9,decide_eq_true_eq] at hcond
     obtain⟨⟨h1,h2⟩,h3⟩:=hcond
     have hbd:=eJ (P:=P) (b:=true) S hl hhi h1 h2 h3 hn
     rw [hA] at run
     refine Goal.val S hpq h (run _ (bN ht hc.1 hbd)) ?_ trivial
     have hlen:((xs.drop l.toNat).take (hh.toNat-l.toNat)).length=hh.toNat-l.toNat:=by simp;omega
     refine⟨_,_,by rw [hlen],by omega,by omega,?_⟩
     by_cases hz:hh.toNat-l.toNat=0
     ·left;rw [hz];rfl
     ·right
      rcases hr with rfl|⟨ad,rfl,hr⟩
      ·simp at h3;omega
      ·rw [if_neg (by omega)]
       refine⟨_,rfl,?_⟩
       rw [hs]
       exact TP (TO hr _) _
    ·cases h
   ·rename_i h2;cases h2
   ·cases hc
  ·rename_i ro he
   rw [he] at hc hv hus
   split at h
   ·rename_i e' sz xs fz hrow
    obtain⟨hc2,h⟩:=I2 h
    rw [Bool.not_eq_false'] at hc2
    split at hc2
    ·rename_i e ht
     simp only [ht] at hc
     simp only [A9] at hc2
     have hs:sz=K2 P e:=B0 hc2.2
     have hv:a.eval x=g.hdr ro:=hv.1
     split at h
     ·rename_i l hh hl hhi
      replace h:=H3 h
      obtain⟨hcond,h⟩:=h
      simp only [A9,decide_eq_true_eq] at hcond
      obtain⟨⟨h1,h2⟩,h3⟩:=hcond
      rcases qI S.hp hrow with ⟨k1,hx0⟩|⟨b,cap,k1,k2,k3⟩
      ·rw [hv,k1] at run
       rw [hx0] at h3 hhi
       have hbd:=eJ (P:=P) (b:=true) S hl hhi h1 h2 h3 (B9 _)
       refine Goal.val S hpq h (run _ (bN ht hc hbd)) ?_ hus
       simp only [A8] at h3
       refine⟨by rw [k1];simp [X4];omega,_,_,rfl,by omega,by simp [maxLen],.inl (by omega)⟩
      ·rw [hv,k1] at run
       have hbd:=eJ (P:=P) (b:=true) S hl hhi h1 h2 h3 k2
       refine Goal.val S hpq h (run _ (bN ht hc hbd)) ?_ hus
       refine⟨by rw [k1];simp [X4];omega,_,_,rfl,by omega,by omega,?_⟩
       by_cases hz:hh.toNat-l.toNat=0
       ·exact .inl hz
       ·right
        refine⟨b,by rw [k1];rfl,?_⟩
        rw [if_neg (by omega),Option.map_some,H8,hs,C5]
     ·cases h
    ·cases hc2
   ·cases h
  ·cases h
end
end Go.AE
