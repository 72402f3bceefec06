import Derived.WalkKit
import Derived.Laws.OwnMore
import Derived.WalkLawsBesides
import Derived.Laws.StructEq
import Derived.Laws.Cover3
import Derived.Laws.IdiomStrings
import Derived.Laws.Tables
import Derived.Laws.Slices
import Derived.Laws.MakeOwn
import Derived.Laws.AppendOwnNone
set_option linter.all false
namespace Go.AE
abbrev F9:=List UInt8
abbrev A0:=@List.length_cons
abbrev A7:=@List.length_append
abbrev A8:=@List.length_nil
abbrev A9:=@Bool.and_eq_true
abbrev B0:=@Nat.eq_of_beq_eq_true
abbrev B1:=@Option.some.injEq
abbrev B2:=@Nat.ble_eq_true_of_le
abbrev B3:=@Nat.le_of_ble_eq_true
abbrev B4:=@List.mem_append_right
abbrev B5:=@List.mem_append_left
abbrev B6:=@List.all_eq_true
abbrev B7:=@List.mem_cons
abbrev B8:=@List.mem_cons_self
abbrev B9:=@Nat.le_refl
abbrev C0:=@List.mem_cons_of_mem
abbrev C1:=@List.append_assoc
abbrev C2:=@List.getElem?_eq_getElem
abbrev C3:=@List.mem_singleton
abbrev C4:=@Nat.zero_le
abbrev C5:=@Nat.zero_add
abbrev C6:=@List.getElem_mem
abbrev C7:=@Prod.mk.injEq
abbrev C8:=@Array.getElem?_eq_getElem
abbrev C9:=@List.length_singleton
abbrev D0:=@Array.getElem?_toList
abbrev D1:=@List.eq_nil_of_length_eq_zero
abbrev D2:=@Array.getD_eq_getD_getElem?
abbrev D3:=@List.mem_append
abbrev D4:=@List.drop_eq_nil_of_le
abbrev D5:=@List.append_nil
abbrev D6:=@Bool.false_eq_true
abbrev D7:=@List.length_take
abbrev D8:=@Bool.not_eq_true'
abbrev D9:=@List.flatMap_cons
abbrev E1:=@Int.toNat_natCast
abbrev E2:=@Array.length_toList
abbrev E3:=@List.length_eq_zero_iff
abbrev E4:=@decide_eq_true
abbrev E5:=@of_decide_eq_true
abbrev E6:=@decide_eq_false
abbrev E7:=@of_decide_eq_false
abbrev E8:=@beq_self_eq_true
abbrev E9:=@beq_eq_false_iff_ne
abbrev F3:=@List.getElem?_append_right
abbrev F4:=@List.getElem_append_left
abbrev F5:=@List.mem_flatMap
abbrev F6:=@List.length_drop
theorem F7:(∀ {α:Type} (as bs:List α),(as++bs).length=as.length+bs.length)∧(∀ {α:Type} (a:α) (as:List α),(a::as).length=as.length+1)∧(∀ {α:Type},([]:List α).length=0):=⟨fun _ _=>List.length_append,fun _ _=>rfl,rfl⟩
inductive D where
 |top
 |bool (b:Bool)
 |int (k:IntKind) (n:Int)
 |str (s:F9)
 |Z (sz:Nat) (xs:List D)
 |nils (e sz:Nat)
 |und
 |agg (cs:List D)
 |fn (f:Nat)
 |nilp
 |nilf
 |nilm
 |nili
 |ub
 |iface (t:Nat) (x:D)
 |meth (t:Nat) (nm:String) (x:D)
instance:Inhabited D:=⟨.top⟩
namespace D
def b:D→Bool | .bool b=>b|_=>false
def i:D→Int | .int _ n=>n|_=>0
def s:D→F9 | .str s=>s|_=>[]
def l:D→List D | .Z _ xs=>xs|_=>[]
def cells:D→List D | .agg cs=>cs|x=>[x]
def Su:D→D | .iface _ x=>x|_=> .top
def at_ (x:D)(j:Nat):D:=(x.cells)[j]?.getD .top
end D
mutual
def D.eq:D→D→Bool
 | .top,.top=>true
 | .bool a,.bool b=>a==b
 | .int k a,.int k' b=>decide (k=k')&&a==b
 | .str a,.str b=>a==b
 | .Z s xs,.Z t ys=>Nat.beq s t&&D.eqs xs ys
 | .nils a b,.nils c d=>Nat.beq a c&&Nat.beq b d
 | .und,.und=>true
 | .agg xs,.agg ys=>D.eqs xs ys
 | .fn f,.fn g=>Nat.beq f g
 | .nilp,.nilp=>true
 | .nilf,.nilf=>true
 | .nilm,.nilm=>true
 | .nili,.nili=>true
 | .ub,.ub=>true
 | .iface t x,.iface t' y=>Nat.beq t t'&&D.eq x y
 | .meth t n x,.meth t' n' y=>Nat.beq t t'&&(n==n')&&D.eq x y
 |_,_=>false
def D.eqs:List D→List D→Bool
 |[],[]=>true
 |x::xs,y::ys=>D.eq x y&&D.eqs xs ys
 |_,_=>false
end
inductive pI where
 |any|bool|int (k:IntKind)|str|Z (sz:Nat)
inductive Ty where
 |leaf (t:pI)
 |agg (ts:List pI)
 |ifc (t:Nat) (ts:List pI)
def aT:pI→D→Bool
 | .any,_=>true
 | .bool,.bool _=>true
 | .int k,.int k' _=>decide (k=k')
 | .str,.str _=>true
 | .Z sz,.Z sz' _=>Nat.beq sz sz'
 | .Z _,.nils _ _=>true
 |_,_=>false
def JV:pI→D→D
 | .any,x=>x
 | .bool,x=> .bool x.b
 | .int k,x=> .int k x.i
 | .str,x=> .str x.s
 | .Z sz,x=> .Z sz x.l
def S3:List pI→List D→Bool
 |[],[]=>true
 |t::ts,c::cs=>aT t c&&S3 ts cs
 |_,_=>false
def qG:List pI→D→Nat→List D
 |[],_,_=>[]
 |t::ts,x,j=>JV t (x.at_ j)::qG ts x (j+1)
def K0:Ty→D→Bool
 | .leaf t,x=>aT t x
 | .agg ts,.agg cs=>S3 ts cs
 | .agg _,_=>false
 | .ifc t ts,.iface t' (.agg cs)=>Nat.beq t t'&&S3 ts cs
 | .ifc ..,_=>false
def H7:Ty→D→D
 | .leaf t,x=>JV t x
 | .agg ts,x=> .agg (qG ts x 0)
 | .ifc t ts,x=> .iface t (.agg (qG ts x.Su 0))
inductive V where
 |d (x:D)
 |ptr (o off:Nat)
 |el (sz:Nat) (xs:List D) (i off:Nat)
 |rp (o sz i off:Nat)
 |row (o:Nat)
 |sub (o sz lo n:Nat)
 |agg (cs:List V)
 |fn (f:Nat) (caps:List V)
 |tup (vs:List V)
 |mp (o:Nat)
 |bp (t o off:Nat)
instance:Inhabited V:=⟨.d .top⟩
abbrev V.top:V:= .d .top
inductive Ob where
 |var (cs:List V)
 |row (e sz:Nat) (xs:List D) (fz:Bool)
 |mp (kt:pI) (xs:List D)
 |it (t mo:Nat) (xs:List D)
structure Mk where
 k:Nat
 df:List (Nat×List (Nat×Nat))
structure St where
 t:Nat→V
 h:Nat→Option Ob
 m:Mk
abbrev St.n (st:St):Nat:=st.m.k
def St.set (st:St)(d:Nat)(v:V):St:={ st with t:=fun x=>bif Nat.beq x d then v else st.t x }
def St.put (st:St)(d:Option Nat)(v:V):St:=match d with|some d=>st.set d v|none=>st
def St.dG (st:St)(o:Nat)(ob:Option Ob):St:={ st with h:=fun x=>bif Nat.beq x o then ob else st.h x }
abbrev Out:=Option (Bool×List D)
inductive SV where
 |d (t:Ty)
 |ptr (o off:Nat)
 |row (o:Nat)
 |fn (f:Nat) (caps:List SV)
 |agg (cs:List SV)
 |x
 |mp (o:Nat)
 |bp (t o off:Nat)
inductive CO where
 |var (cs:List SV)
 |row (e sz mode:Nat)
 |gone
 |mp (kt:pI)
 |it (t l:Nat)
structure Sk where
 slots:List (Nat×SV)
 objs:List CO
inductive Task where
 |call (f:Nat) (sk:Sk) (ds:List D)
 |loop (f:Nat) (H9:Sk) (pre:List (Nat×Nat)) (df:List (Nat×List (Nat×Nat))) (once:Bool) (id:Nat) (body:Code) (sk:Sk) (ds:List D)
structure oA where
 P:Program
 own:Nat→Nat→Nat
 dres:Nat→Nat→Nat
 keep:Nat→Nat→List Nat
 cut:Nat→Nat→List Nat
 CK:Nat→Sk→List D→Option (List D)
 ext:Nat→List D→Option (Bool×List D)
 FD:(Nat→Option Obj)→Prop
 glob:Nat→Option (List D)
 bld:Nat→Option Nat:=fun _=>none
 cc:Nat→Bool:=fun _=>false
 bstr:Nat→Bool:=fun _=>false
 bty:Nat:=0
 trn:Nat→Bool:=fun _=>false
 nowid:Nat→Nat→Bool:=fun _ _=>false
def dY:TypeDesc→Bool
 | .struct _=>true
 | .array _ _=>true
 |_=>false
def P4 (P:Program)(t:TypeId):Bool:=match P.underlying t with|some d=>dY d|none=>false
def EE (P:Program)(t:Nat)(nm:String):Option Nat:=
 match P.info? t,P.underlying t with
 |some _,some (.pointer _)=>none
 |some i,some _=>(match i.methods.find? (·.name==nm) with
  |some m=>bif m.path.isEmpty then (match m.func with|some (f,false)=>some f|_=>none) else none
  |none=>none)
 |_,_=>none
def L6 (P:Program)(t:TypeId):Nat:=match P.info? t with|some i=>i.size|none=>0
def iK (P:Program)(t:TypeId):Option TypeId:=match P.underlying t with|some (.slice e)=>some e|_=>none
def CD (P:Program)(t:TypeId):Bool:=(P.underlying t).isSome&&(P.info? t).isSome
def eJ (P:Program)(t:TypeId):Bool:=(iK P t).isSome
def eX (P:Program)(t:TypeId):pI:=
 match P.underlying t with
 |some .bool=> .bool
 |some (.int k)=> .int k
 |some .string=> .str
 |some (.slice e)=> .Z (L6 P e)
 |_=> .any
def DZ (P:Program):Nat→TypeId→List pI
 |0,_=>[]
 |n+1,t=>
  match P.underlying t with
  |some (.struct fs)=>fs.toList.flatMap fun f=>DZ P n f.type
  |some (.array k e)=>(List.range k).flatMap fun _=>DZ P n e
  |_=>[eX P t]
def zW (P:Program)(t:TypeId):Ty:=bif P4 P t then .agg (DZ P 8 t) else .leaf (eX P t)
def BG (P:Program)(t:TypeId)(k:Nat):Option (Nat×TypeId):=
 match P.underlying t with
 |some (.struct fs)=>match fs[k]? with|some f=>some (f.offset,f.type)|none=>none
 |_=>none
def LC:Value→D
 | .bool b=> .bool b
 | .int k n=> .int k n
 | .string s=> .str s.data.toList
 | .slice none 0 0=> .nils 0 0
 | .pointer none=> .nilp
 | .nilFunc=> .nilf
 | .map none=> .nilm
 | .nilIface=> .nili
 |_=> .top
def SW:Value→D
 | .agg cs=> .agg (cs.toList.map LC)
 |v=>LC v
def JY (P:Program):Nat→TypeId→List TypeId
 |0,_=>[]
 |n+1,t=>
  match P.underlying t with
  |some (.struct fs)=>fs.toList.flatMap fun f=>JY P n f.type
  |some (.array k e)=>(List.range k).flatMap fun _=>JY P n e
  |_=>[t]
def zeroCell (P:Program)(t:TypeId)(x:D):D:=
 match x with
 | .nils _ _=>(match P.underlying t with|some (.slice e)=> .nils e (L6 P e)|_=>x)
 |x=>x
def zeroCells (P:Program):List TypeId→List D→List D
 |t::ts,x::xs=>zeroCell P t x::zeroCells P ts xs
 |[],xs=>xs
 |_,[]=>[]
def OM (P:Program)(t:TypeId):Option D:=
 match P.info? t with
 |some i=>(match i.zero with
  |some z=>(match SW z with
   | .agg cs=>some (.agg (zeroCells P (JY P 8 t) cs))
   |x=>some (zeroCell P t x))
  |none=>none)
 |none=>none
def V.cells:V→List V
 | .d (.agg cs)=>cs.map V.d
 | .agg cs=>cs
 |v=>[v]
def jM:V→Bool
 | .d .top=>false
 | .d .und=>false
 | .d (.agg _)=>false
 | .agg _=>false
 | .tup _=>false
 | .bp ..=>false
 |_=>true
def dQ (v:V):Bool:=v.cells.all jM
def Qa (x:D):Bool:=x.cells.all fun c=>jM (.d c)
def SI:List V→Option (List D)
 |[]=>some []
 |v::vs=>match v,SI vs with | .d x,some xs=>some (x::xs)|_,_=>none
def mO:V→V
 | .fn _ (_::_)=> .top
 | .agg _=> .top
 | .tup _=> .top
 | .bp ..=> .top
 |v=>v
def gN (cs:List V):V:=match SI cs with|some xs=> .d (.agg xs)|none=> .agg (cs.map mO)
def setAt {α:Type}:List α→Nat→List α→List α
 |xs,_,[]=>xs
 |xs,off,y::ys=>setAt (xs.set off y) (off+1) ys
def MU (h:Nat→Option Ob):V→Option (Nat×List D)
 | .d (.Z sz xs)=>some (sz,xs)
 | .d (.nils _ _)=>some (0,[])
 | .row o=>match h o with|some (.row _ sz xs _)=>some (sz,xs)|_=>none
 | .sub o z lo n=>match h o with|some (.row _ sz xs _)=>bif Nat.beq z sz then some (sz,(xs.drop lo).take n) else none|_=>none
 |_=>none
def RB (h:Nat→Option Ob):V→Option (D×List Nat)
 | .d x=>some (x,[])
 | .row o=>match h o with|some (.row _ sz xs _)=>some (.Z sz xs,[o])|_=>none
 | .sub o z lo n=>match h o with|some (.row _ sz xs _)=>bif Nat.beq z sz then some (.Z sz ((xs.drop lo).take n),[o]) else none|_=>none
 | .fn f []=>some (.fn f,[])
 |_=>none
def DY (h:Nat→Option Ob):List V→Option (List D×List Nat)
 |[]=>some ([],[])
 |v::vs=>match RB h v,DY h vs with|some (x,a),some (xs,b)=>some (x::xs,a++b)|_,_=>none
def Qv (h:Nat→Option Ob):V→Option (D×List Nat)
 | .agg cs=>match DY h cs with|some (xs,a)=>some (.agg xs,a)|none=>none
 |v=>RB h v
def MZ:pI→D→D
 | .Z sz,x=>(match x with | .nils _ _=> .Z sz []|y=>y)
 |_,x=>x
def BR:List pI→List D→List D
 |t::ts,x::xs=>MZ t x::BR ts xs
 |_,xs=>xs
def BS:Ty→D→D
 | .leaf t,x=>MZ t x
 | .agg ts,x=>(match x with | .agg cs=> .agg (BR ts cs)|y=>y)
 | .ifc ..,x=>x
def Ue (ty:Ty)(h:Nat→Option Ob)(v:V):Option (D×List Nat):=match Qv h v with|some (x,a)=>some (BS ty x,a)|none=>none
def V4 (h:Nat→Option Ob):List Nat→Nat→Option Ob
 |[]=>h
 |o::os=>fun x=>bif Nat.beq x o then (match h o with|some (.row e sz xs _)=>some (.row e sz xs true)|ob=>ob) else V4 h os x
def St.freeze (st:St)(os:List Nat):St:={ st with h:=V4 st.h os }
def O4:List (Nat×Nat)→Nat→Option Nat
 |[],_=>none
 |(a,b)::r,x=>bif Nat.beq x a then some b else O4 r x
def Km:List (Nat×Nat)→Nat→Bool
 |[],_=>false
 |(_,b)::r,x=>Nat.beq x b||Km r x
def Ad (ren:List (Nat×Nat))(l o:Nat):Option (List (Nat×Nat)):=
 match O4 ren l with
 |some o'=>bif Nat.beq o o' then some ren else none
 |none=>bif Km ren o then none else some ((l,o)::ren)
structure Cf where
 ds:List D
 fz:List Nat
 ren:List (Nat×Nat)
def Kt (h:Nat→Option Ob)(o:Nat):Bool:=match h o with|some (.row _ _ _ fz)=>!fz|_=>false
def isVar (h:Nat→Option Ob)(o:Nat):Bool:=match h o with|some (.var _)=>true|some (.it ..)=>true|_=>false
def Ut (h:Nat→Option Ob)(o:Nat):Bool:=match h o with|some (.mp _ _)=>true|_=>false
def pI.same:pI→pI→Bool
 | .any,.any=>true
 | .bool,.bool=>true
 | .int a,.int b=>decide (a=b)
 | .str,.str=>true
 | .Z a,.Z b=>Nat.beq a b
 |_,_=>false
def jN (h:Nat→Option Ob)(c:Cf):SV→V→Option Cf
 | .d t,v=>match Qv h v with|some (x,a)=>some ⟨c.ds++[BS t x],c.fz++a,c.ren⟩|none=>none
 | .ptr l f,.ptr o f'=>bif Nat.beq f f'&&isVar h o then (match Ad c.ren l o with|some r=>some ⟨c.ds,c.fz,r⟩|none=>none) else none
 | .row l,.row o=>bif Kt h o then (match Ad c.ren l o with|some r=>some ⟨c.ds,c.fz,r⟩|none=>none) else none
 | .x,_=>some c
 | .mp l,.mp o=>bif Ut h o then (match Ad c.ren l o with|some r=>some ⟨c.ds,c.fz,r⟩|none=>none) else none
 | .fn f [],.d (.fn f')=>bif Nat.beq f f' then some c else none
 | .fn f [],.fn f' []=>bif Nat.beq f f' then some c else none
 |_,_=>none
def iH (h:Nat→Option Ob):Cf→List SV→List V→Option Cf
 |c,[],[]=>some c
 |c,s::ss,v::vs=>match jN h c s v with|some c'=>iH h c' ss vs|none=>none
 |_,_,_=>none
def ID (h:Nat→Option Ob)(c:Cf):SV→V→Option Cf
 | .fn f caps,.fn f' caps'=>bif Nat.beq f f' then iH h c caps caps' else none
 | .bp t l f,.bp t' o f'=>bif Nat.beq t t'&&Nat.beq f f' then (match Ad c.ren l o with|some r=>some ⟨c.ds,c.fz,r⟩|none=>none) else none
 | .agg ss,.agg cs=>iH h c ss cs
 | .agg ss,.d (.agg cs)=>iH h c ss (cs.map V.d)
 |s,v=>jN h c s v
def tJ (st:St):Cf→List (Nat×SV)→Option Cf
 |c,[]=>some c
 |c,(t,s)::r=>match ID st.h c s (st.t t) with|some c'=>tJ st c' r|none=>none
def jW (h:Nat→Option Ob):Cf→List SV→List V→Option Cf
 |c,[],[]=>some c
 |c,s::ss,v::vs=>match ID h c s v with|some c'=>jW h c' ss vs|none=>none
 |_,_,_=>none
def kZ (h:Nat→Option Ob):Cf→Nat→List CO→Option Cf
 |c,_,[]=>some c
 |c,l,.gone::r=>kZ h c (l+1) r
 |c,l,.var ss::r=>
  match O4 c.ren l with
  |some o=>match h o with
   |some (.var cs)=>match jW h c ss cs with|some c'=>kZ h c' (l+1) r|none=>none
   |_=>none
  |none=>none
 |c,l,.row e sz _::r=>
  match O4 c.ren l with
  |some o=>match h o with
   |some (.row e' sz' xs false)=>bif Nat.beq e e'&&Nat.beq sz sz' then kZ h ⟨c.ds++[.Z sz xs],c.fz,c.ren⟩ (l+1) r else none
   |_=>none
  |none=>none
 |c,l,.mp kt::r=>
  match O4 c.ren l with
  |some o=>match h o with
   |some (.mp kt' xs)=>bif pI.same kt kt' then kZ h ⟨c.ds++[.Z 2 xs],c.fz,c.ren⟩ (l+1) r else none
   |_=>none
  |none=>none
 |c,l,.it t l'::r=>
  match O4 c.ren l with
  |some o=>match h o with
   |some (.it t' mo xs)=>bif Nat.beq t t' then (match Ad c.ren l' mo with|some ren=>kZ h ⟨c.ds++[.Z 0 xs],c.fz,ren⟩ (l+1) r|none=>none) else none
   |_=>none
  |none=>none
def SJ (ren:List (Nat×Nat)):List Nat→Bool
 |[]=>true
 |o::os=>!(Km ren o)&&SJ ren os
def Dr (n:Nat):List (Nat×Nat)→Bool
 |[]=>true
 |(l,_)::r=>Nat.blt l n&&Dr n r
def SS (sk:Sk)(pre:List (Nat×Nat))(st:St):Option Cf:=
 match tJ st ⟨[],[],pre⟩ sk.slots with
 |some c=>match kZ st.h c 0 sk.objs with
  |some c'=>bif SJ c'.ren c'.fz&&Dr sk.objs.length c'.ren then some c' else none
  |none=>none
 |none=>none
def Y:List D→Nat→D
 |[],_=> .top
 |x::_,0=>x
 |_::r,n+1=>Y r n
def aM (E:Ty→D→D)(ds:List D):SV→Nat→V×Nat
 | .d t,j=>(.d (E t (Y ds j)),j+1)
 | .ptr o f,j=>(.ptr o f,j)
 | .row o,j=>(.row o,j)
 | .fn f _,j=>(.d (.fn f),j)
 | .agg _,j=>(.top,j)
 | .x,j=>(.top,j)
 | .mp o,j=>(.mp o,j)
 | .bp ..,j=>(.top,j)
def O0 (E:Ty→D→D)(ds:List D):List SV→Nat→List V×Nat
 |[],j=>([],j)
 |s::ss,j=>match aM E ds s j with|(v,j')=>match O0 E ds ss j' with|(vs,r)=>(v::vs,r)
def gI (E:Ty→D→D)(ds:List D):SV→Nat→V×Nat
 | .fn f (c::caps),j=>match O0 E ds (c::caps) j with|(vs,r)=>(.fn f vs,r)
 | .agg ss,j=>match O0 E ds ss j with|(vs,r)=>(gN vs,r)
 | .bp t o f,j=>(.bp t o f,j)
 |s,j=>aM E ds s j
def U6 (E:Ty→D→D)(ds:List D):List SV→Nat→List V×Nat
 |[],j=>([],j)
 |s::ss,j=>match gI E ds s j with|(v,j')=>match U6 E ds ss j' with|(vs,r)=>(v::vs,r)
def V9 (E:Ty→D→D)(ds:List D):List (Nat×SV)→Nat→(Nat→V)×Nat
 |[],j=>(fun _=> .top,j)
 |(t,s)::r,j=>match gI E ds s j with|(v,j')=>match V9 E ds r j' with|(f,q)=>(fun x=>bif Nat.beq x t then v else f x,q)
def P8 (E:Ty→D→D)(ds:List D):List CO→Nat→Nat→Nat→Option Ob
 |[],_,_=>fun _=>none
 | .gone::r,l,j=>P8 E ds r (l+1) j
 | .var ss::r,l,j=>match U6 E ds ss j with|(vs,j')=>fun x=>bif Nat.beq x l then some (.var vs) else P8 E ds r (l+1) j' x
 | .row e sz _::r,l,j=>fun y=>bif Nat.beq y l then some (.row e sz (Y ds j).l false) else P8 E ds r (l+1) (j+1) y
 | .mp kt::r,l,j=>fun y=>bif Nat.beq y l then some (.mp kt (Y ds j).l) else P8 E ds r (l+1) (j+1) y
 | .it t l'::r,l,j=>fun y=>bif Nat.beq y l then some (.it t l' (Y ds j).l) else P8 E ds r (l+1) (j+1) y
def M4 (E:Ty→D→D)(sk:Sk)(ds:List D):St:=
 match V9 E ds sk.slots 0 with
 |(t,j)=>⟨t,P8 E ds sk.objs 0 j,⟨sk.objs.length,[]⟩⟩
def cI (sk:Sk)(ds:List D):St:=M4 H7 sk ds
def St.later (st:St)(df:List (Nat×List (Nat×Nat))):St:={ st with m:=⟨st.m.k,df⟩ }
def VK:List (Nat×Nat)→List (Nat×Nat)→Bool
 |[],[]=>true
 |(a,b)::r,(c,d)::q=>Nat.beq a c&&Nat.beq b d&&VK r q
 |_,_=>false
def NU:List (Nat×List (Nat×Nat))→List (Nat×List (Nat×Nat))→Bool
 |[],[]=>true
 |(a,b)::r,(c,d)::q=>Nat.beq a c&&VK b d&&NU r q
 |_,_=>false
def kX:SV→List D→Bool×List D
 | .d t,x::ds=>(K0 t x,ds)
 | .d _,[]=>(false,[])
 |_,ds=>(true,ds)
def kY:List SV→List D→Bool×List D
 |[],ds=>(true,ds)
 |s::ss,ds=>match kX s ds with|(b,ds')=>match kY ss ds' with|(b',r)=>(b&&b',r)
def OS:SV→List D→Bool×List D
 | .fn _ caps,ds=>kY caps ds
 | .agg ss,ds=>kY ss ds
 |s,ds=>kX s ds
def qQ:List SV→List D→Bool×List D
 |[],ds=>(true,ds)
 |s::ss,ds=>match OS s ds with|(b,ds')=>match qQ ss ds' with|(b',r)=>(b&&b',r)
def tI:List (Nat×SV)→List D→Bool×List D
 |[],ds=>(true,ds)
 |(_,s)::r,ds=>match OS s ds with|(b,ds')=>match tI r ds' with|(b',q)=>(b&&b',q)
def mI:List CO→List D→Bool
 |[],[]=>true
 |[],_::_=>false
 | .gone::r,ds=>mI r ds
 | .var ss::r,ds=>match qQ ss ds with|(b,ds')=>b&&mI r ds'
 | .row _ sz _::r,x::ds=>aT (.Z sz) x&&mI r ds
 | .row ..::_,[]=>false
 | .mp _::r,x::ds=>aT (.Z 2) x&&mI r ds
 | .mp _::_,[]=>false
 | .it ..::r,x::ds=>aT (.Z 0) x&&mI r ds
 | .it ..::_,[]=>false
def I7 (sk:Sk)(ds:List D):Bool:=match tI sk.slots ds with|(b,r)=>b&&mI sk.objs r
def TY:D→pI
 | .bool _=> .bool
 | .int k _=> .int k
 | .str _=> .str
 | .Z sz _=> .Z sz
 | .nils (_+1) sz=> .Z sz
 |_=> .any
def Wv:D→Ty
 | .agg cs=> .agg (cs.map TY)
 | .iface t (.agg cs)=> .ifc t (cs.map TY)
 |x=> .leaf (TY x)
def nF (xs:List Nat):List Nat→List Nat
 |[]=>xs
 |o::os=>nF (bif xs.any (Nat.beq o) then xs else xs++[o]) os
def tZ (h:Nat→Option Ob):V→List Nat
 | .ptr o _=>[o]
 | .mp o=>[o]
 | .row o=>bif Kt h o then [o] else []
 |_=>[]
def wV (h:Nat→Option Ob):V→List Nat
 | .fn _ caps=>caps.flatMap (tZ h)
 | .agg cs=>cs.flatMap (tZ h)
 |v=>tZ h v
def Tc (h:Nat→Option Ob)(o:Nat):List Nat:=match h o with|some (.var cs)=>cs.flatMap (wV h)|some (.it _ mo _)=>[mo]|_=>[]
def reach (h:Nat→Option Ob):Nat→List Nat→List Nat
 |0,os=>os
 |n+1,os=>reach h n (nF os (os.flatMap (Tc h)))
def idx:List Nat→Nat→Nat
 |[],_=>0
 |a::r,x=>bif Nat.beq x a then 0 else idx r x+1
def Co (h:Nat→Option Ob)(all:List Nat):V→SV
 | .d (.fn f)=> .fn f []
 | .d x=> .d (Wv x)
 | .ptr o f=> .ptr (idx all o) f
 | .mp o=> .mp (idx all o)
 | .row o=>bif Kt h o&&all.any (Nat.beq o) then .row (idx all o) else (match h o with|some (.row _ sz _ _)=> .d (.leaf (.Z sz))|_=> .x)
 | .sub o _ _ _=>match h o with|some (.row _ sz _ _)=> .d (.leaf (.Z sz))|_=> .x
 | .fn f []=> .fn f []
 |_=> .x
def Pl (h:Nat→Option Ob):V→pI
 | .d x=>TY x
 | .row o=>(match h o with|some (.row _ sz _ _)=> .Z sz|_=> .any)
 | .sub o _ _ _=>(match h o with|some (.row _ sz _ _)=> .Z sz|_=> .any)
 |_=> .any
def We (h:Nat→Option Ob)(all:List Nat):V→SV
 | .fn f caps=> .fn f (caps.map (Co h all))
 | .agg cs=>bif (cs.flatMap (tZ h)).any (fun o=>all.any (Nat.beq o)) then .agg (cs.map (Co h all)) else .d (.agg (cs.map (Pl h)))
 | .bp t o f=> .bp t (idx all o) f
 |v=>Co h all v
def Ro (h:Nat→Option Ob)(all:List Nat)(mode:Nat→Nat)(o:Nat):CO:=
 match h o with
 |some (.var cs)=> .var (cs.map (We h all))
 |some (.row e sz _ _)=> .row e sz (mode o)
 |some (.mp kt _)=> .mp kt
 |some (.it t mo _)=> .it t (idx all mo)
 |none=> .gone
def yP (h:Nat→Option Ob)(own:Nat→Nat):Nat→List V→List Nat
 |_,[]=>[]
 |i,.row o::r=>bif Nat.beq (own i) 0 then yP h own (i+1) r else nF (tZ h (.row o)) (yP h own (i+1) r)
 |i,.agg cs::r=>bif Nat.beq (own i) 0 then yP h own (i+1) r else nF (cs.flatMap (tZ h)) (yP h own (i+1) r)
 |i,v::r=>wV h v++yP h own (i+1) r
def Be (h:Nat→Option Ob)(own:Nat→Nat):Nat→List V→Nat→Nat
 |_,[],_=>0
 |i,v::r,x=>bif !(Nat.beq (own i) 0)&&(match v with | .row o=>Nat.beq x o | .agg cs=>(cs.flatMap (tZ h)).any (Nat.beq x)|_=>false)
   then (bif Nat.beq (own i) 1 then 2 else 1) else Be h own (i+1) r x
def KE (h:Nat→Option Ob)(all:List Nat):Nat→List V→List (Nat×SV)
 |_,[]=>[]
 |i,v::r=>(i,We h all v)::KE h all (i+1) r
def Ke (h:Nat→Option Ob)(mode:Nat→Nat):List Nat→List Nat×List Nat
 |[]=>([],[])
 |o::os=>match Ke h mode os with|(a,b)=>bif isVar h o||Ut h o||Nat.beq (mode o) 1 then (o::a,b) else (a,o::b)
def KU (h:Nat→Option Ob)(own:Nat→Nat)(args:List V):Sk:=
 match Ke h (Be h own 0 args) (reach h 3 (nF [] (yP h own 0 args))) with
 |(a,b)=>⟨KE h (a++b) 0 args,(a++b).map (Ro h (a++b) (Be h own 0 args))⟩
def La (st:St)(pre:List Nat)(keep:List Nat):Sk:=
 let ks:=keep.filter fun t=>match st.t t with | .d .top=>false | .el ..=>false | .rp ..=>false | .tup _=>false|_=>true
 let all:=reach st.h 3 (nF pre (ks.flatMap fun t=>wV st.h (st.t t)))
 ⟨ks.map fun t=>(t,We st.h all (st.t t)),all.map (Ro st.h all fun _=>0)⟩
def K4:List V→Nat→List V×List (Nat×Ob)×Nat
 |[],m=>([],[],m)
 | .d (.nils (e+1) (sz+1))::r,m=>match K4 r (m+1) with|(vs,os,q)=>(.row m::vs,(m,.row (e+1) (sz+1) [] false)::os,q)
 |v::r,m=>match K4 r m with|(vs,os,q)=>(v::vs,os,q)
def nX (h:Nat→Option Ob):List (Nat×Ob)→Nat→Option Ob
 |[]=>h
 |(o,ob)::r=>fun x=>bif Nat.beq x o then some ob else nX h r x
def iP:List Nat→St→St
 |[],st=>st
 |o::os,st=>match st.h o with
  |some (.var (c::cs))=>(match K4 (c::cs) st.n with
   |(vs,new,m)=>iP os { st with h:=nX (fun x=>bif Nat.beq x o then some (.var vs) else st.h x) new,m:=⟨m,st.m.df⟩ })
  |_=>iP os st
def RZ (st:St)(pre:List Nat)(keep:List Nat):St:=
 iP (reach st.h 3 (nF pre (keep.flatMap fun t=>wV st.h (st.t t)))) st
def xT:List CO→List CO
 |[]=>[]
 | .row e sz m::r=>(bif Nat.beq m 2 then .gone else .row e sz m)::xT r
 |s::r=>s::xT r
def aG:Nat→List CO→List (Nat×Nat)
 |_,[]=>[]
 |l,.var _::r=>(l,l)::aG (l+1) r
 |l,.mp _::r=>(l,l)::aG (l+1) r
 |l,.it ..::r=>(l,l)::aG (l+1) r
 |l,.row _ _ m::r=>bif Nat.beq m 1 then (l,l)::aG (l+1) r else aG (l+1) r
 |l,.gone::r=>aG (l+1) r
def SG (P:Program):Nat→List TypeId→List SV×List CO
 |_,[]=>([],[])
 |l,t::ts=>
  match iK P t with
  |some e=>match SG P (l+1) ts with|(a,b)=>(.row l::a,.row e (L6 P e) 0::b)
  |none=>match SG P l ts with|(a,b)=>(.d (.leaf (eX P t))::a,b)
def GY (P:Program)(dres:Nat→Nat):Nat→Nat→List TypeId→List (Nat×SV)×List CO
 |_,_,[]=>([],[])
 |i,l,t::ts=>
  bif Nat.beq (dres i) 2 then
   (match SG P l (JY P 8 t) with
   |(cs,os)=>match GY P dres (i+1) (l+os.length) ts with|(a,b)=>((i,.agg cs)::a,os++b))
  else
  match (match iK P t with|some e=>bif Nat.beq (dres i) 1 then none else some e|none=>none) with
  |some e=>match GY P dres (i+1) (l+1) ts with|(a,b)=>((i,.row l)::a,.row e (L6 P e) 0::b)
  |none=>match GY P dres (i+1) l ts with|(a,b)=>((i,.d (zW P t))::a,b)
def cF (P:Program)(dres:Nat→Nat)(ts:List TypeId)(sk:Sk):Sk:=
 match GY P dres 0 sk.objs.length ts with
 |(a,b)=>⟨a,xT sk.objs++b⟩
def fX (P:Program)(st:St):List ResultVar→List V
 |[]=>[]
 | .tmp t::r=>st.t t::fX P st r
 | .cell a t::r=>
  (match st.t a with
   | .ptr o off=>match st.h o with
    |some (.var cs)=>bif P4 P t then gN ((cs.drop off).take (L6 P t)) else (cs[off]?).getD .top
    |_=> .top
   |_=> .top)::fX P st r
def OZ:List V→Nat→V
 |[],_=> .top
 |v::r,x=>bif Nat.beq x 0 then v else OZ r (x-1)
def tR (P:Program)(st:St):List ResultVar→Bool
 |[]=>true
 | .tmp _::r=>tR P st r
 | .cell a t::r=>
  (match st.t a with
   | .ptr o off=>match st.h o with
    |some (.var cs)=>CD P t&&(bif P4 P t then Nat.ble (off+L6 P t) cs.length else Nat.blt off cs.length)
    |_=>false
   |_=>false)&&tR P st r
def SU:Nat→List (Nat×SV)→Bool
 |_,[]=>true
 |i,(j,_)::r=>Nat.beq i j&&SU (i+1) r
def finish (P:Program)(rs:List ResultVar)(H9:Sk)(pre:List (Nat×Nat))(st:St):Out:=
 bif tR P st rs&&SU 0 H9.slots&&Nat.beq H9.slots.length rs.length then
 (match SS H9 pre ⟨OZ (fX P st rs),st.h,st.m⟩ with
 |some c=>some (true,c.ds)
 |none=>none) else none
def uR (f:Nat→Nat):V→V
 | .ptr o off=> .ptr (f o) off
 | .row o=> .row (f o)
 | .mp o=> .mp (f o)
 |v=>v
def VG (f:Nat→Nat):V→V
 | .fn g caps=> .fn g (caps.map (uR f))
 | .agg cs=> .agg (cs.map (uR f))
 | .bp t o off=> .bp t (f o) off
 |v=>uR f v
def xZ (f:Nat→Nat):Ob→Ob
 | .var cs=> .var (cs.map (VG f))
 | .it t mo xs=> .it t (f mo) xs
 |ob=>ob
def AM (ren pre:List (Nat×Nat))(nid:Nat)(l:Nat):Nat:=
 match O4 pre l with
 |some _=>(O4 ren l).getD 0
 |none=>nid+l
def oS (sk:Sk)(ren pre:List (Nat×Nat))(h:Nat→Option Ob):Nat→List CO→Nat→Option Ob
 |_,[]=>h
 |l,.row ..::r=>fun x=>bif (match O4 pre l with|some _=>false|none=>(match O4 ren l with|some o=>Nat.beq x o|none=>false)) then none else oS sk ren pre h (l+1) r x
 |l,_::r=>oS sk ren pre h (l+1) r
def mR (f:Nat→Nat)(h' h:Nat→Option Ob):Nat→List CO→Nat→Option Ob
 |_,[]=>h
 |l,.gone::r=>mR f h' h (l+1) r
 |l,_::r=>fun x=>bif Nat.beq x (f l) then (match h' l with|some ob=>some (xZ f ob)|none=>none) else mR f h' h (l+1) r x
def oG (f:Nat→Nat)(t:Nat→V):List (Nat×SV)→List V
 |[]=>[]
 |(i,_)::r=>VG f (t i)::oG f t r
def UN:List V→V
 |[v]=>v
 |vs=> .tup vs
def merge (sk H9:Sk)(ren pre:List (Nat×Nat))(nid:Nat)(st:St)(ds:List D):V×St:=
 let f:=AM ren pre nid
 match cI H9 ds with
 |⟨t,h',_⟩=>(UN (oG f t H9.slots),{ st with h:=mR f h' (oS sk ren pre st.h 0 sk.objs) 0 H9.objs })
def tO:pI→Bool
 | .bool=>true
 | .int _=>true
 | .str=>true
 |_=>false
def KC:Ty→Bool
 | .leaf t=>tO t
 | .agg ts=>ts.all tO
 | .ifc ..=>false
def UZ:D→Bool
 | .bool _=>true
 | .int _ _=>true
 | .str _=>true
 | .agg cs=>cs.all fun | .bool _=>true | .int _ _=>true | .str _=>true|_=>false
 |_=>false
def xV:SV→Bool
 | .d t=>KC t
 | .fn _ []=>true
 | .agg _=>false
 | .fn _ _=>false
 |_=>true
def zF:SV→Bool
 | .agg ss=>ss.all xV
 | .fn _ ss=>ss.all xV
 |s=>xV s
def zG (P:Program)(sk:Sk):Bool:=
 sk.slots.all (fun p=>zF p.2)&&sk.objs.all fun | .var ss=>ss.all zF | .row e _ _=>KC (zW P e) | .gone=>true | .mp _=>false | .it ..=>false
def cS (_sk:Sk)(ds:List D):Bool:=ds.all fun | .Z _ xs=>xs.all UZ|_=>true
def H3 {R:Type}(r:Out)(k:List D→Option R):Option R:=match r with|some (true,ds)=>k ds|_=>none
def J2 (r:Out)(k:List D→Out):Out:=match r with|some (true,ds)=>some (true,ds)|some (false,ds)=>k ds|none=>none
def eG (P:Program)(own:Nat→Nat)(nid:Nat):Nat→List TypeId→List V→(Nat→Option Ob)→List V×(Nat→Option Ob)
 |i,t::ts,.d (.nils a b)::r,h=>
  match iK P t with
  |some e=>bif Nat.beq (own i) 0 then (match eG P own nid (i+1) ts r h with|(vs,h')=>(.d (.Z (L6 P e) [])::vs,h'))
    else bif Nat.blt 0 (L6 P e) then (match eG P own nid (i+1) ts r (fun x=>bif Nat.beq x (nid+16+i) then some (.row e (L6 P e) [] false) else h x) with|(vs,h')=>(.row (nid+16+i)::vs,h'))
    else (match eG P own nid (i+1) ts r h with|(vs,h')=>(.d (.nils a b)::vs,h'))
  |none=>match eG P own nid (i+1) ts r h with|(vs,h')=>(.d (.nils a b)::vs,h')
 |i,_::ts,v::r,h=>match eG P own nid (i+1) ts r h with|(vs,h')=>(v::vs,h')
 |_,[],r,h=>(r,h)
 |_,_,[],h=>([],h)
def qS {R:Type}(c:oA)(rec:Task→Out)(no:Bool)(f:Nat)(args0:List V)(nid:Nat)(V3:St)(K:V→St→Option R):Option R:=
 match c.P.funcs[f]? with
 |none=>none
 |some fn=>
  bif !(fn.body.isSome&&Nat.ble fn.params.size 16) then none else
  match eG c.P (c.own f) nid 0 fn.params.toList args0 V3.h with
  |(args,h0)=>
  let st:St:={ V3 with h:=h0 }
  let sk:=KU st.h (c.own f) args
  match SS sk [] ⟨OZ args,st.h,st.m⟩ with
  |none=>none
  |some cf=>
   bif no&&(c.CK f sk cf.ds).isSome then none else
   H3 (rec (.call f sk cf.ds)) fun ds=>
    let H9:=cF c.P (c.dres f) fn.resultTypes.toList sk
    bif !(Nat.ble H9.objs.length 16) then none else
    bif cf.fz.isEmpty then
     (bif I7 H9 ds then (match merge sk H9 cf.ren (aG 0 sk.objs) nid st ds with|(v,st')=>K v st') else none)
    else bif zG c.P H9 then
     (bif I7 H9 ds&&cS H9 ds then (match merge sk H9 cf.ren (aG 0 sk.objs) nid st ds with|(v,st')=>K v st') else none)
    else
     (bif I7 H9 ds then (match merge sk H9 cf.ren (aG 0 sk.objs) nid (st.freeze cf.fz) ds with|(v,st')=>K v st') else none)
def qT:D→D→Bool
 | .int _ a,.int _ b=>a==b
 | .str a,.str b=>a==b
 | .bool a,.bool b=>a==b
 |_,_=>false
def cE:List D→List D→Bool
 |a::zs,b::bs=>qT a b&&cE zs bs
 |_,_=>true
def Bd:Nat:=4611686018427387904
def II {R:Type}(op:BinOp)(k:IntKind)(a b:Int)(K:D→Option R):Option R:=
 match op with
 | .add=>K (.int k (k.wrap (a+b)))
 | .sub=>K (.int k (k.wrap (a-b)))
 | .mul=>K (.int k (k.wrap (a*b)))
 | .quo=>bif decide (b=0) then none else K (.int k (k.wrap (a.tdiv b)))
 | .rem=>bif decide (b=0) then none else K (.int k (a.tmod b))
 | .and=>K (.int k (k.wrap (BitVec.ofInt k.bits a &&& BitVec.ofInt k.bits b).toNat))
 | .or=>K (.int k (k.wrap (BitVec.ofInt k.bits a ||| BitVec.ofInt k.bits b).toNat))
 | .xor=>K (.int k (k.wrap (BitVec.ofInt k.bits a ^^^ BitVec.ofInt k.bits b).toNat))
 | .andNot=>K (.int k (k.wrap (BitVec.ofInt k.bits a &&& ~~~BitVec.ofInt k.bits b).toNat))
 | .eql=>K (.bool (a==b))
 | .neq=>K (.bool (a !=b))
 | .lss=>K (.bool (decide (a<b)))
 | .leq=>K (.bool (decide (a≤b)))
 | .gtr=>K (.bool (decide (a>b)))
 | .geq=>K (.bool (decide (a≥b)))
 |_=>none
def JA {R:Type}(op:BinOp)(a b:F9)(K:D→Option R):Option R:=
 match op with
 | .add=>bif decide (a.length+b.length≤Bd) then K (.str (a++b)) else none
 | .eql=>K (.bool (a==b))
 | .neq=>K (.bool (!(a==b)))
 | .lss=>K (.bool (Op.bytesLess a b))
 | .leq=>K (.bool (Op.bytesLess a b||a==b))
 | .gtr=>K (.bool (!(Op.bytesLess a b||a==b)))
 | .geq=>K (.bool (!(Op.bytesLess a b)))
 |_=>none
def LO (FU:TypeId→Option (List pI))(P:Program):Nat→List Field→Option (List pI)
 |_,[]=>some []
 |off,f::fs=>
  match FU f.type with
  |some ts=>bif decide (f.name≠"_")&&Nat.beq f.offset off&&Nat.beq (L6 P f.type) ts.length&&CD P f.type then
    (match LO FU P (off+ts.length) fs with|some r=>some (ts++r)|none=>none) else none
  |none=>none
def FU (P:Program):Nat→TypeId→Option (List pI)
 |0,_=>none
 |n+1,t=>
  match P.underlying t with
  |some .bool=>some [.bool]
  |some (.int k)=>some [.int k]
  |some .string=>some [.str]
  |some (.struct fs)=>bif P.stoodInHeld t then none else LO (FU P n) P 0 fs.toList
  |_=>none
def wK {R:Type}(P:Program)(op:BinOp)(t:TypeId)(x y:D)(K:D→Option R):Option R:=
 match x,y with
 | .int k a,.int k' b=>
  match op with
  | .shl=>bif decide (b<0) then none else K (.int k (k.wrap (a*2 ^ (min b.toNat k.bits))))
  | .shr=>bif decide (b<0) then none else K (.int k (a.fdiv (2 ^ (min b.toNat k.bits))))
  |op=>bif decide (k=k') then II op k a b K else none
 | .str a,.str b=>JA op a b K
 | .bool a,.bool b=>
  match P.underlying t with
  |some .bool=>(match op with
   | .eql=>K (.bool (a==b))
   | .neq=>K (.bool (!(a==b)))
   |_=>none)
  |_=>none
 | .agg zs,.agg bs=>
  bif P4 P t&&!(P.eqGuardType P.depth t)&&(match FU P 8 t with|some ts=>S3 ts zs&&S3 ts bs|none=>false) then
   (match op with
   | .eql=>K (.bool (cE zs bs))
   | .neq=>K (.bool (!(cE zs bs)))
   |_=>none)
  else none
 | .Z _ xs,.nils _ _=>
  bif eJ P t then
   (match op with
   | .eql=>bif xs.isEmpty then K .ub else K (.bool false)
   | .neq=>bif xs.isEmpty then K .ub else K (.bool true)
   |_=>none)
  else none
 | .nils _ _,.nils _ _=>
  bif eJ P t then
   (match op with
   | .eql=>K (.bool true)
   | .neq=>K (.bool false)
   |_=>none)
  else none
 |_,_=>none
def JD {R:Type}(op:UnOp)(x:D)(K:D→Option R):Option R:=
 match op,x with
 | .neg,.int k n=>K (.int k (k.wrap (0-n)))
 | .xor,.int k n=>K (.int k (k.wrap (BitVec.ofInt k.bits (if k.signed then -1 else k.max) ^^^ BitVec.ofInt k.bits n).toNat))
 | .not,.bool b=>K (.bool (!b))
 |_,_=>none
def toByte:D→UInt8
 | .int _ n=>UInt8.ofNat n.toNat
 |_=>0
def wI:List D→Bool
 |[]=>true
 | .int .u8 _::r=>wI r
 |_=>false
def J5:Nat:=68719476736
def K2 (st:St):Operand→V
 | .tmp t=>st.t t
 | .const v=> .d (SW v)
 | .func f=> .d (.fn f)
 | .global _=> .top
def force {R:Type}(v:V)(K:V→Option R):Option R:=
 match v with
 | .d x=>K (.d x)
 | .ptr o f=>K (.ptr o f)
 | .el sz xs i f=>K (.el sz xs i f)
 | .rp o sz i f=>K (.rp o sz i f)
 | .row o=>K (.row o)
 | .sub o sz lo n=>K (.sub o sz lo n)
 | .agg cs=>K (.agg cs)
 | .fn f caps=>K (.fn f caps)
 | .tup vs=>K (.tup vs)
 | .mp o=>K (.mp o)
 | .bp t o f=>K (.bp t o f)
def newRow (st:St)(o e sz:Nat)(xs:List D):St:=st.dG o (some (.row e sz xs false))
def newVar (st:St)(o:Nat)(cs:List V):St:=st.dG o (some (.var cs))
def I5:Ty→Bool
 | .leaf .any=>false
 | .ifc ..=>false
 |_=>true
def typed {R:Type}(ty:Ty)(x:D)(K:D→Option R):Option R:=bif I5 ty&&K0 ty x then K (H7 ty x) else none
def YZ (x:D)(off n:Nat)(agg:Bool):D:=bif agg then .agg ((x.cells.drop off).take n) else x.at_ off
def OQ:D→Bool
 | .agg _=>true
 |_=>false
def Ih (x:D)(off:Nat)(y:D):D:= .agg (setAt x.cells off y.cells)
def IP {R:Type}(P:Program)(t:TypeId)(p:V)(st:St)(K:V→St→Option R):Option R:=
 let n:=L6 P t
 let g:=P4 P t
 bif !(CD P t) then none else
 match p with
 | .ptr o off=>
  match st.h o with
  |some (.var cs)=>bif g then (bif Nat.ble (off+n) cs.length then K (gN ((cs.drop off).take n)) st else none) else (match cs[off]? with|some v=>force v fun v=>K v st|none=>none)
  |_=>none
 | .el sz xs i off=>bif Nat.beq off 0&&Nat.beq n sz then typed (zW P t) (xs[i]?.getD .top) fun x=>K (.d x) st
   else bif Nat.ble (off+n) sz then (bif OQ (xs[i]?.getD .top) then typed (zW P t) (YZ (xs[i]?.getD .top) off n g) fun x=>K (.d x) st else none) else none
 | .rp o sz i off=>
  match st.h o with
  |some (.row _ sz' xs _)=>bif Nat.beq sz sz' then
    (bif Nat.beq off 0&&Nat.beq n sz then typed (zW P t) (xs[i]?.getD .top) fun x=>K (.d x) st
    else bif Nat.ble (off+n) sz then (bif OQ (xs[i]?.getD .top) then typed (zW P t) (YZ (xs[i]?.getD .top) off n g) fun x=>K (.d x) st else none) else none) else none
  |_=>none
 |_=>none
def BV {R:Type}(P:Program)(t:TypeId)(o:Nat)(v:V)(st:St)(K:V→St→Option R):Option R:=
 match v with
 | .d (.nils _ _)=>match iK P t with
  |some e=>bif Nat.blt 0 (L6 P e) then K (.row o) (newRow st o e (L6 P e) []) else none
  |none=>none
 |v=>K v st
def rK (P:Program)(t:TypeId):V→V
 | .d (.nils a b)=>(match iK P t with|some e=> .d (.nils e (L6 P e))|none=> .d (.nils a b))
 |v=>v
def HJ {R:Type}(P:Program)(t:TypeId)(p v:V)(nid:Nat)(st:St)(K:V→St→Option R):Option R:=
 bif !(CD P t) then none else
 match p with
 | .ptr o off=>
  match st.h o with
  |some (.var cs)=>
   bif P4 P t then
    (bif dQ v&&Nat.beq v.cells.length (L6 P t)&&Nat.ble (off+v.cells.length) cs.length then K .top (st.dG o (some (.var (setAt cs off v.cells)))) else none)
   else
    bif jM v&&Nat.beq (L6 P t) 1&&Nat.blt off cs.length then
     (bif Nat.beq cs.length 1 then BV P t nid v st fun v st=>K .top (st.dG o (some (.var (setAt cs off [v])))) else K .top (st.dG o (some (.var (setAt cs off [rK P t v])))))
    else none
  |_=>none
 | .rp o sz i off=>
  match st.h o with
  |some (.row e sz' xs false)=>
   bif Nat.beq sz sz' then
   (match Ue (zW P t) st.h v with
   |some (x,fz)=>
    bif !(Qa x&&Nat.beq x.cells.length (L6 P t)&&!(fz.any (Nat.beq o))) then none else
    bif Nat.beq off 0&&Nat.beq (L6 P t) sz then K .top ((st.freeze fz).dG o (some (.row e sz (xs.set i x) false)))
    else bif Nat.ble (off+L6 P t) sz then
     (bif K0 (zW P e) (xs[i]?.getD .top)&&P4 P e&&Nat.beq (L6 P e) sz then K .top ((st.freeze fz).dG o (some (.row e sz (xs.set i (Ih (xs[i]?.getD .top) off x)) false))) else none)
    else none
   |none=>none) else none
  |_=>none
 |_=>none
def nH (P:Program)(t:TypeId)(ev:Operand→V):List V→List (Nat×Operand)→Option (List V)
 |cs,[]=>some cs
 |cs,(k,x)::r=>
  match BG P t k with
  |some (off,ft)=>bif dQ (ev x)&&Nat.beq (ev x).cells.length (L6 P ft)&&Nat.ble (off+L6 P ft) cs.length then nH P t ev (setAt cs off (ev x).cells) r else none
  |none=>none
def JG (P:Program)(t:TypeId):Option D:=match OM P t with|some z=>some (BS (zW P t) z)|none=>none
def tQ (ty:Ty)(h:Nat→Option Ob)(ev:Operand→V)(sz:Nat):List D→List (Nat×Operand)→Option (List D×List Nat)
 |xs,[]=>some (xs,[])
 |xs,(k,x)::r=>match Ue ty h (ev x) with
  |some (d,a)=>bif Nat.blt k xs.length&&Qa d&&Nat.beq d.cells.length sz then
    (match tQ ty h ev sz (xs.set k d) r with|some (ys,b)=>some (ys,a++b)|none=>none) else none
  |none=>none
def LW (P:Program)(t:TypeId):Bool:=match P.underlying t with|some (.struct fs)=>fs.toList.all fun f=>(P.info? f.type).isSome|_=>false
def DA (P:Program)(e:TypeId):Bool:=match P.info? e with|some i=>Nat.ble i.bytes 2048&&Nat.blt 0 i.size&&(match i.zero with|some z=>Nat.beq z.cells.size i.size|none=>false)|none=>false
def yO {R:Type}(P:Program)(t:TypeId)(s x:V)(nid:Nat)(st:St)(K:V→St→Option R):Option R:=
 match iK P t with
 |none=>none
 |some e=>
  let sz:=L6 P e
  match MU st.h x with
  |none=>none
  |some (sz',ys)=>
   bif DA P e&&(Nat.beq sz sz'||ys.isEmpty) then
    (match s with
    | .d (.nils _ _)=>bif Nat.ble ys.length J5 then K (.row nid) (newRow st nid e sz ys) else none
    | .row o=>
     match st.h o with
     |some (.row e' sz'' xs false)=>bif Nat.beq e e'&&Nat.beq sz sz'' then
       (bif Nat.ble (xs.length+ys.length) J5 then K (.row nid) (newRow (st.dG o none) nid e sz (xs++ys)) else none) else none
     |_=>none
    |_=>none)
   else none
def KT (P:Program)(e:TypeId):Bool:=match P.info? e with|some i=>Nat.beq i.size 1&&Nat.beq i.bytes 1&&(match i.zero with|some (.int .u8 n)=>n==0|_=>false)|none=>false
def tF {R:Type}(P:Program)(t:TypeId)(s:V)(x:F9)(nid:Nat)(st:St)(K:V→St→Option R):Option R:=
 match iK P t,s with
 |some e,.row o=>(match st.h o with
  |some (.row e' sz xs false)=>bif Nat.beq e e'&&Nat.beq sz 1&&Nat.beq (L6 P e) 1&&Nat.ble (xs.length+x.length) J5&&KT P e then
    K (.row nid) (newRow (st.dG o none) nid e 1 (xs++x.map fun b=> .int .u8 (b.toNat:Int))) else none
  |_=>none)
 |_,_=>none
def MV {R:Type}(P:Program)(t:TypeId)(l c:V)(nid:Nat)(st:St)(K:V→St→Option R):Option R:=
 match iK P t,l,c with
 |some e,.d (.int .i64 n),.d (.int .i64 m)=>
  (match JG P e with
  |some z=>bif DA P e&&Qa z then
    (bif decide (0≤n)&&decide (n≤m)&&decide (m≤J5) then K (.row nid) (newRow st nid e (L6 P e) (List.replicate n.toNat z)) else none) else none
  |none=>none)
 |_,_,_=>none
def QJ {R:Type}(_P:Program)(d x:V)(st:St)(K:V→St→Option R):Option R:=
 match d with
 | .row o=>match st.h o,MU st.h x with
  |some (.row e sz xs false),some (sz',ys)=>
   bif Nat.beq sz 1&&(Nat.beq sz sz'||ys.isEmpty)&&(match x with | .row o'=>!(Nat.beq o o') | .sub o' _ _ _=>!(Nat.beq o o')|_=>true) then
    K (.d (.int .i64 (min ys.length xs.length:Nat))) (st.dG o (some (.row e sz (ys.take xs.length++xs.drop ys.length) false)))
   else none
  |_,_=>none
 |_=>none
def XR {R:Type}(P:Program)(t:TypeId)(st:St)(x:V)(K:Int→Option R):Option R:=
 match P.underlying t with
 |some .string=>(match x with | .d (.str s)=>K s.length|_=>none)
 |some (.slice _)=>(match MU st.h x with|some (_,xs)=>K xs.length|none=>none)
 |some (.map _ _)=>(match x with | .mp o=>(match st.h o with|some (.mp _ xs)=>K xs.length|_=>none) | .d .nilm=>K 0|_=>none)
 |_=>none
def AL (k:D):List D→Option Nat
 |[]=>none
 |x::r=>bif qT k (x.at_ 0) then some 0 else (match AL k r with|some i=>some (i+1)|none=>none)
def Kl (k:D)(xs:List D):Bool:=match AL k xs with|some _=>true|none=>false
def getM (z k:D)(xs:List D):D:=match AL k xs with|some i=>(xs[i]?.getD .top).at_ 1|none=>z
def VB (k v:D)(xs:List D):List D:=match AL k xs with|some i=>xs.set i (.agg [k,v])|none=>xs++[.agg [k,v]]
def UF (P:Program)(t:TypeId):Option (TypeId×TypeId):=match P.underlying t with|some (.map k e)=>some (k,e)|_=>none
def DR:pI→Bool
 | .bool=>true
 | .int _=>true
 | .str=>true
 |_=>false
def uN {R:Type}(P:Program)(t:TypeId)(nid:Nat)(st:St)(K:V→St→Option R):Option R:=
 match UF P t with
 |some (k,_)=>bif DR (eX P k) then K (.mp nid) (st.dG nid (some (.mp (eX P k) []))) else none
 |none=>none
def sJ {R:Type}(P:Program)(t:TypeId)(x i:V)(ok:Bool)(st:St)(K:V→St→Option R):Option R:=
 match UF P t,i with
 |some (k,e),.d kd=>
  (match JG P e,(match x with | .mp o=>(match st.h o with|some (.mp kt xs)=>(bif pI.same kt (eX P k) then some xs else none)|_=>none) | .d .nilm=>some []|_=>none) with
  |some z,some xs=>bif DR (eX P k)&&aT (eX P k) kd then
    typed (zW P e) (getM z kd xs) fun y=>(bif ok then K (.tup [.d y,.d (.bool (Kl kd xs))]) st else K (.d y) st) else none
  |_,_=>none)
 |_,_=>none
def zB {R:Type}(P:Program)(t:TypeId)(x i y:V)(st:St)(K:V→St→Option R):Option R:=
 match UF P t,i,x with
 |some (k,e),.d kd,.mp o=>
  (match st.h o,Ue (zW P e) st.h y with
  |some (.mp kt xs),some (d,fz)=>bif pI.same kt (eX P k)&&DR kt&&aT kt kd&&Nat.ble xs.length J5 then
    K .top ((st.freeze fz).dG o (some (.mp kt (VB kd d xs)))) else none
  |_,_=>none)
 |_,_,_=>none
def VN (k:D)(xs:List D):Nat:=match AL k xs with|some i=>i|none=>xs.length
def Wc (i:Nat)(v:D)(xs:List D):List D:=xs.set i (.agg [(xs[i]?.getD .top).at_ 0,v])
def zA {R:Type}(P:Program)(t:TypeId)(x i:V)(st:St)(K:V→St→Option R):Option R:=
 match UF P t,i,x with
 |some (k,e),.d kd,.mp o=>
  (match st.h o,JG P e with
  |some (.mp kt xs),some z=>bif pI.same kt (eX P k)&&DR kt&&aT kt kd&&Nat.ble xs.length J5 then
    typed (zW P e) (getM z kd xs) fun y=>K (.tup [.d y,.d (.int .i64 (VN kd xs))]) (st.dG o (some (.mp kt (VB kd (getM z kd xs) xs)))) else none
  |_,_=>none)
 |_,_,_=>none
def yS {R:Type}(P:Program)(t:TypeId)(x s y:V)(st:St)(K:V→St→Option R):Option R:=
 match UF P t,x,s with
 |some (_,e),.mp o,.d (.int _ n)=>
  (match st.h o,Ue (zW P e) st.h y with
  |some (.mp kt xs),some (d,fz)=>bif decide (0≤n)&&decide (n<xs.length) then
    K .top ((st.freeze fz).dG o (some (.mp kt (Wc n.toNat d xs)))) else none
  |_,_=>none)
 |_,_,_=>none
def HC {R:Type}(P:Program)(t:TypeId)(x:V)(nid:Nat)(st:St)(K:V→St→Option R):Option R:=
 match UF P t,x with
 |some (_,_),.mp o=>(match st.h o with
  |some (.mp _ xs)=>K (.ptr nid 0) (st.dG nid (some (.it t o [.int .i64 xs.length,.top])))
  |_=>none)
 |_,_=>none
def FT {R:Type}(P:Program)(x:V)(st:St)(K:V→St→Option R):Option R:=
 match x with
 | .ptr q 0=>(match st.h q with
  |some (.it t mo ns)=>(match UF P t,st.h mo with
   |some (k,e),some (.mp _ xs)=>(match Y ns 1 with
    | .int _ j=>bif (Y ns 0).i==(xs.length:Int) then
      typed (.leaf (eX P k)) ((xs[j.toNat]?.getD .top).at_ 0) fun y=>typed (zW P e) ((xs[j.toNat]?.getD .top).at_ 1) fun z=>K (.tup [.d y,.d z]) st
     else none
    |_=>none)
   |_,_=>none)
  |_=>none)
 |_=>none
def lJ (d:Int):Option V→Option Int
 |none=>some d
 |some (.d (.int _ n))=>some n
 |_=>none
def yD {R:Type}(P:Program)(t:TypeId)(x:V)(lo hi mx:Option V)(st:St)(K:V→St→Option R):Option R:=
 match mx with
 |some _=>none
 |none=>
  bif !(match P.underlying t,x with|some .string,.d (.str _)=>true|some (.slice e),.d (.Z sz _)=>CD P e&&Nat.beq sz (L6 P e)|some (.slice e),.row _=>CD P e|_,_=>false) then none else
  match x with
  | .d (.str s)=>
   (match lJ 0 lo,lJ s.length hi with
   |some l,some h=>bif decide (0≤l)&&decide (l≤h)&&decide (h≤s.length) then K (.d (.str ((s.drop l.toNat).take (h.toNat-l.toNat)))) st else none
   |_,_=>none)
  | .d (.Z sz xs)=>
   (match lJ 0 lo,lJ xs.length hi with
   |some l,some h=>bif decide (0≤l)&&decide (l≤h)&&decide (h≤xs.length) then K (.d (.Z sz ((xs.drop l.toNat).take (h.toNat-l.toNat)))) st else none
   |_,_=>none)
  | .row o=>
   match st.h o with
   |some (.row e' sz xs _)=>bif !(match P.underlying t with|some (.slice e)=>Nat.beq e e'&&Nat.beq sz (L6 P e)|_=>false) then none else (match lJ 0 lo,lJ xs.length hi with
    |some l,some h=>bif decide (0≤l)&&decide (l≤h)&&decide (h≤xs.length) then K (.sub o sz l.toNat (h.toNat-l.toNat)) st else none
    |_,_=>none)
   |_=>none
  |_=>none
def HK {R:Type}(P:Program)(t:TypeId)(x:V)(hi:Option V)(nid:Nat)(st:St)(K:V→St→Option R):Option R:=
 match iK P t,x,hi with
 |some e,.row o,some (.d (.int _ h))=>
  (match st.h o with
  |some (.row e' sz xs false)=>bif CD P e&&Nat.beq e e'&&Nat.beq sz (L6 P e)&&decide (0≤h)&&decide (h≤(xs.length:Int)) then
    K (.row nid) (newRow (st.dG o none) nid e' sz (xs.take h.toNat)) else none
  |_=>none)
 |_,_,_=>none
def FO {R:Type}(P:Program)(t:TypeId)(x:V)(st:St)(K:V→St→Option R):Option R:=
 match iK P t,x with
 |some e,.sub o z lo n=>
  (match st.h o,JG P e with
  |some (.row e' sz xs false),some d=>bif DA P e&&Qa d&&Nat.beq sz (L6 P e)&&Nat.beq z sz&&Nat.ble (lo+n) xs.length then
    K .top (st.dG o (some (.row e' sz (xs.take lo++List.replicate n d++xs.drop (lo+n)) false))) else none
  |_,_=>none)
 |_,_=>none
def jO {R:Type}(P:Program)(t:TypeId)(x i:V)(st:St)(K:V→St→Option R):Option R:=
 bif !(match iK P t,x with|some e,.d (.Z sz _)=>CD P e&&Nat.beq sz (L6 P e)|some e,.row o=>CD P e&&(match st.h o with|some (.row _ sz _ _)=>Nat.beq sz (L6 P e)|_=>false)|some e,.sub _ sz _ _=>CD P e&&Nat.beq sz (L6 P e)|_,_=>false) then none else
 match i with
 | .d (.int _ n)=>
  match x with
  | .d (.Z sz xs)=>bif decide (0≤n)&&decide (n<xs.length) then K (.el sz xs n.toNat 0) st else none
  | .row o=>match st.h o with
   |some (.row _ sz xs _)=>bif decide (0≤n)&&decide (n<xs.length) then K (.rp o sz n.toNat 0) st else none
   |_=>none
  | .sub o z lo m=>match st.h o with
   |some (.row _ sz _ _)=>bif Nat.beq z sz&&decide (0≤n)&&decide (n<m) then K (.rp o sz (lo+n.toNat) 0) st else none
   |_=>none
  |_=>none
 |_=>none
def JU {R:Type}(P:Program)(t:TypeId)(o off:Nat)(m:Int)(st:St)(K:V→St→Option R):Option R:=
 match P.underlying t with
 |some (.array len e)=>bif CD P e&&decide (0≤m)&&decide (m<(len:Int)) then K (.ptr o (off+m.toNat*L6 P e)) st else none
 |_=>none
def oW {R:Type}(c:oA)(t:TypeId)(x:Operand)(vx vi:V)(st:St)(K:V→St→Option R):Option R:=
 match x with
 | .global n=>(match c.glob n,c.P.underlying t,vi with
  |some xs,some (.array len e),.d (.int _ m)=>bif CD c.P e&&Nat.beq (L6 c.P e) 1&&Nat.beq len xs.length&&decide (0≤m)&&decide (m<(xs.length:Int)) then K (.el 1 xs m.toNat 0) st else none
  |_,_,_=>none)
 |_=>match vx,vi with
  | .ptr o off,.d (.int _ m)=>JU c.P t o off m st K
  |_,_=>jO c.P t vx vi st K
def KP (c:oA)(t nid:Nat)(cs:List V)(h:Nat→Option Ob):Option (List V×(Nat→Option Ob)):=
 match c.bld t with
 |none=>some (cs,h)
 |some off=>(match cs[off]?,cs[off+1]? with
  |some (.d .nilp),some (.d (.nils e sz))=>bif Nat.blt 0 sz then some ((cs.set off (.bp t nid off)).set (off+1) (.row (nid+1)),fun x=>bif Nat.beq x (nid+1) then some (.row e sz [] false) else h x) else none
  |_,_=>none)
def KQ {R:Type}(c:oA)(t nid:Nat)(cs:List V)(st:St)(K:V→St→Option R):Option R:=
 match KP c t nid cs st.h with
 |some (cs',h')=>K (.ptr nid 0) (newVar { st with h:=h' } nid cs')
 |none=>none
def KB:List D→Bool
 |[]=>true
 | .int .u8 n::r=>decide (0≤n)&&decide (n<256)&&KB r
 |_=>false
def Mq (c:oA)(g:Nat)(args:List V)(st:St):Option (Bool×V×St):=
 match args with
 |[.ptr o off]=>(match st.h o with
  |some (.var cs)=>(match cs[off]? with
   |some (.bp t o' f)=>bif Nat.beq o' o&&Nat.beq f off&&(match c.bld t with|some k=>Nat.beq k off|none=>false)&&Nat.beq cs.length (L6 c.P t) then
     (bif c.cc g then some (true,.tup [],st)
     else bif c.bstr g then (match cs[off+1]? with
      |some (.row r)=>(match st.h r with
       |some (.row e sz xs false)=>some (KB xs&&Nat.beq sz 1&&Nat.beq e c.bty,.d (.str (xs.map toByte)),st.dG r none)
       |_=>none)
      |_=>none)
     else none) else none
   |_=>none)
  |_=>none)
 |_=>none
def QC {R:Type}(c:oA)(rec:Task→Out)(f:V)(args:List V)(nid:Nat)(st:St)(K:V→St→Option R):Option R:=
 match f with
 | .d (.fn g)=>match Mq c g args st with
  |some (b,v,st')=>bif b then K v st' else none
  |none=>match (match SI args with|some ds=>c.ext g ds|none=>none) with
  |some (b,r)=>bif b then K (UN (r.map V.d)) st else none
  |none=>qS c rec false g args nid st K
 | .fn g caps=>qS c rec false g (args++caps) nid st K
 |_=>none
def qN {R:Type}(c:oA)(b:Builtin)(ts:Array TypeId)(args:List V)(nid:Nat)(st:St)(K:V→St→Option R):Option R:=
 match b,args with
 | .len,[x]=>(match ts[0]? with|some t=>XR c.P t st x fun n=>K (.d (.int .i64 n)) st|none=>none)
 | .append,[s,x]=>(match ts.toList with
  |[t,t']=>bif Nat.beq t t' then yO c.P t s x nid st K
    else bif (match c.P.underlying t' with|some .string=>true|_=>false) then (match x with | .d (.str s')=>tF c.P t s s' nid st K|_=>none) else none
  |_=>none)
 | .copy,[d,x]=>(match ts.toList with
  |[t,_]=>(match iK c.P t with
   |some e=>bif CD c.P e&&Nat.beq (L6 c.P e) 1 then QJ c.P d x st K else none
   |none=>none)
  |_=>none)
 | .clear,[x]=>(match ts.toList with|[t]=>FO c.P t x st K|_=>none)
 | .max,[.d (.int k a),.d (.int k' b)]=>bif decide (k=k') then K (.d (.int k (max a b))) st else none
 | .min,[.d (.int k a),.d (.int k' b)]=>bif decide (k=k') then K (.d (.int k (min a b))) st else none
 |_,_=>none
def Im {R:Type}(c:oA)(rec:Task→Out)(o:Oper)(nid:Nat)(st:St)(K:V→St→Option R):Option R:=
 let ev:=K2 st
 match o.op with
 | .move x=>force (ev x) fun v=>K v st
 | .assign x=>force (ev x) fun v=>match v with
  | .d (.nils _ _)=>bif eJ c.P o.type then BV c.P o.type nid v st K else K v st
  |v=>K v st
 | .pick x a b=>(match ev x with
  | .d (.bool t)=>bif t then force (ev a) (fun v=>K v st) else force (ev b) (fun v=>K v st)
  |_=>none)
 | .alloc t=>(match OM c.P t with
  |some z=>bif dQ (.d z) then (bif eJ c.P t then BV c.P t (nid+1) (.d z) st fun v st=>K (.ptr nid 0) (newVar st nid v.cells) else KQ c t nid (V.d z).cells st K) else none
  |none=>none)
 | .box t x=>bif !(dQ (ev x)) then none else bif eJ c.P t then BV c.P t (nid+1) (ev x) st fun v st=>K (.ptr nid 0) (newVar st nid v.cells)
   else bif Nat.beq (ev x).cells.length (L6 c.P t) then KQ c t nid (ev x).cells st K else none
 | .build t ps=>(match OM c.P t with
  |some z=>bif !(dQ (.d z)&&LW c.P t) then none else (match nH c.P t ev (V.d z).cells ps.toList with
   |some cs=>K (gN cs) st
   |none=>none)
  |none=>none)
 | .buildSlice t n ps=>(match iK c.P t with
  |some e=>(match JG c.P e with
   |some z=>bif Nat.blt 0 (L6 c.P e)&&CD c.P e&&Nat.ble (n*L6 c.P e) 16777216&&Qa z&&Nat.beq z.cells.length (L6 c.P e) then
     (match tQ (zW c.P e) st.h ev (L6 c.P e) (List.replicate n z) ps.toList with
     |some (xs,fz)=>K (.row nid) (newRow (st.freeze fz) nid e (L6 c.P e) xs)
     |none=>none) else none
   |none=>none)
  |none=>none)
 | .load t p=>IP c.P t (ev p) st K
 | .store t p x=>HJ c.P t (ev p) (ev x) nid st K
 | .nilCheck x=>(match ev x with
  | .ptr q f=>K (.ptr q f) st
  | .el sz xs i f=>K (.el sz xs i f) st
  | .rp q sz i f=>K (.rp q sz i f) st
  | .d (.fn f)=>K (.d (.fn f)) st
  | .fn f caps=>K (.fn f caps) st
  | .d (.meth t nm x)=>bif (EE c.P t nm).isSome then K (.d (.meth t nm x)) st else none
  |_=>none)
 | .binOp op t x y _=>(match ev x,ev y with
  | .d a,.d b=>wK c.P op t a b fun z=>K (.d z) st
  |_,_=>none)
 | .unOp op _ x=>(match ev x with
  | .d a=>JD op a fun z=>K (.d z) st
  |_=>none)
 | .convert src dst x=>(match c.P.underlying src,c.P.underlying dst,ev x with
  |some (.int _),some (.int k),.d (.int _ n)=>K (.d (.int k (k.wrap n))) st
  |some (.int _),some .string,.d (.int _ n)=>bif decide (0≤n)&&decide (n<128) then K (.d (.str [UInt8.ofNat n.toNat])) st else none
  |some .string,some .string,.d (.str s)=>K (.d (.str s)) st
  |some (.slice e),some .string,x=>(match c.P.underlying e with
   |some (.int .u8)=>(match MU st.h x with
    |some (_,xs)=>bif wI xs then K (.d (.str (xs.map toByte))) st else none
    |none=>none)
   |_=>none)
  |_,_,_=>none)
 | .makeFunc (.method nm) first captured=>(match first.toList with
  |[r]=>bif captured.isEmpty then (match ev r with | .d (.iface t x)=>K (.d (.meth t nm x)) st|_=>none) else none
  |_=>none)
 | .makeFunc (.func f) first captured=>bif captured.isEmpty&&first.isEmpty then K (.d (.fn f)) st else bif first.isEmpty then K (.fn f (captured.toList.map fun x=>mO (ev x))) st else none
 | .fieldAddr t x k=>(match BG c.P t k with
  |some (off,ft)=>bif Nat.blt 0 (L6 c.P ft)&&CD c.P ft then (match ev x with
   | .ptr q f=>K (.ptr q (f+off)) st
   | .el sz xs i f=>K (.el sz xs i (f+off)) st
   | .rp q sz i f=>K (.rp q sz i (f+off)) st
   |_=>none) else none
  |none=>none)
 | .field t x k=>(match BG c.P t k with
  |some (off,ft)=>bif !(CD c.P ft) then none else (match ev x with
   | .d (.agg cs)=>bif Nat.ble (off+L6 c.P ft) cs.length then (bif P4 c.P ft then K (.d (.agg ((cs.drop off).take (L6 c.P ft)))) st else (match cs[off]? with|some z=>K (.d z) st|none=>none)) else none
   | .agg cs=>bif Nat.ble (off+L6 c.P ft) cs.length then (bif P4 c.P ft then K (gN ((cs.drop off).take (L6 c.P ft))) st else (match cs[off]? with|some z=>K z st|none=>none)) else none
   |_=>none)
  |none=>none)
 | .indexAddr t x i=>oW c t x (ev x) (ev i) st K
 | .index t x i=>(match c.P.underlying t,ev x,ev i with
  |some .string,.d (.str s),.d (.int _ n)=>bif decide (0≤n)&&decide (n<s.length) then K (.d (.int .u8 (s[n.toNat]?.getD 0).toNat)) st else none
  |_,_,_=>none)
 | .makeSlice t l m=>MV c.P t (ev l) (ev m) nid st K
 | .makeMap t r=>(match r with|none=>uN c.P t nid st K|some _=>none)
 | .lookup t x i ok=>sJ c.P t (ev x) (ev i) ok st K
 | .mapEntry t x i=>zA c.P t (ev x) (ev i) st K
 | .entryStore t x s y=>yS c.P t (ev x) (ev s) (ev y) st K
 | .range t x=>HC c.P t (ev x) nid st K
 | .entry x=>FT c.P (ev x) st K
 | .mapUpdate t x i y=>zB c.P t (ev x) (ev i) (ev y) st K
 | .slice t x lo hi mx=>bif c.trn t&&lo.isNone&&hi.isSome then (match mx with|none=>HK c.P t (ev x) (hi.map ev) nid st K|some _=>none) else yD c.P t (ev x) (lo.map ev) (hi.map ev) (mx.map ev) st K
 | .makeInterface t x=>(match c.P.underlying t,ev x with
  |some (.interface _),_=>none
  |some _,.d d=>K (.d (.iface t d)) st
  |some _,v=>(match Qv st.h v with|some (d,fz)=>K (.d (.iface t d)) (st.freeze fz)|none=>none)
  |none,_=>none)
 | .extract x k=>(match ev x with
  | .tup vs=>bif Nat.blt k vs.length then force (OZ vs k) fun v=>K v st else none
  |_=>none)
 | .call q=>(match q.callee with
  | .value f=>QC c rec (ev f) (q.args.toList.map ev) nid st K
  | .builtin b=>qN c b q.argTypes (q.args.toList.map ev) nid st K
  | .invoke x nm=>(match ev x with
   | .d (.iface t d)=>(match EE c.P t nm with
    |some f=>qS c rec false f (.d d::q.args.toList.map ev) nid st K
    |none=>none)
   |_=>none))
 |_=>none
def labels (pre:List (Nat×Nat)):List V→Option (List (Nat×Nat))
 |[]=>some []
 | .ptr o off::r=>match O4 pre o,labels pre r with|some o',some zs=>bif Nat.beq o o' then some ((o,off)::zs) else none|_,_=>none
 |_=>none
def SZ (pre:List (Nat×Nat))(st:St)(o:Oper):Option (Nat×List (Nat×Nat)):=
 match o.op with
 | .defer q=>(match q.callee,o.guard,o.dst with
  | .value f,none,none=>(match K2 st f with
   | .d (.fn g)=>(match labels pre (q.args.toList.map (K2 st)) with|some zs=>some (g,zs)|none=>none)
   |_=>none)
  |_,_,_=>none)
 |_=>none
def agree:Out→Out→Out
 |some (a,xs),some (b,ys)=>bif (a==b)&&D.eqs xs ys then some (a,xs) else none
 |_,_=>none
def BC:List Out→Out
 |[]=>none
 |x::r=>match r with|[]=>x|_::_=>agree x (BC r)
def RC (n:Nat)(ns:List D):List Nat:=(List.range n).filter fun j=>!(ns.any fun x=>x.i==(j:Int))
def Ed (l:List Nat)(a:Out)(f:Nat→Out):Out:=match l with|[]=>a|_::_=>BC (l.map f)
def YY (ns:List D)(j:Nat):List D:=Y ns 0 :: .int .i64 j::(ns.drop 2++[.int .i64 j])
def YO (ns:List D):List D:=Y ns 0 :: .top::(List.range (Y ns 0).i.toNat).map fun (j:Nat)=> .int .i64 (j:Int)
def Bg (st:St)(o:Oper):Option (Nat×Nat×Nat×List D×Nat×Nat):=
 match o.op with
 | .next x false=>(match K2 st x,o.guard,o.dst with
  | .ptr q 0,none,some d=>(match st.h q with
   |some (.it t mo ns)=>(match st.h mo with
    |some (.mp _ xs)=>some (q,t,mo,ns,d,xs.length)
    |_=>none)
   |_=>none)
  |_,_,_=>none)
 |_=>none
def EJ (c:oA)(rec:Task→Out)(nt:Nat)(pre:List (Nat×Nat))(all:List Oper)(V3:Nat):Nat→List Oper→St→(St→Out)→Out
 |_,[],st,K=>K st
 |i,o::r,st,K=>
  match SZ pre st o with
  |some d=>EJ c rec nt pre all V3 (i+1) r { st with m:=⟨st.m.k,d::st.m.df⟩ } K
  |none=>
  match Bg st o with
  |some (q,t,mo,ns,d,m)=>bif Nat.blt d nt&&(Y ns 0).i==(m:Int) then
    Ed (RC (Y ns 0).i.toNat (ns.drop 2)) (EJ c rec nt pre all V3 (i+1) r ((st.dG q (some (.it t mo (YO ns)))).set d (.tup [.d (.bool false)])) K)
     (fun j=>EJ c rec nt pre all V3 (i+1) r ((st.dG q (some (.it t mo (YY ns j)))).set d (.tup [.d (.bool true),.top,.top])) K) else none
  |none=>
  let on (st:St):Out:=
   bif (match o.dst with|some d=>Nat.blt d nt|none=>true) then Im c rec o (V3+32*i) st fun v st'=>EJ c rec nt pre all V3 (i+1) r (st'.put o.dst v) K else none
  match o.guard with
  |none=>on st
  |some (j,want)=>
   match (all[j]?).bind (·.dst) with
   |none=>none
   |some d=>match st.t d with
    | .d .und=>bif (match o.dst with|some d=>Nat.blt d nt|none=>true) then EJ c rec nt pre all V3 (i+1) r (st.put o.dst (.d .und)) K else none
    | .d (.bool b)=>bif b then
      (let st:=st.set d (.d (.bool true));bif want then on st else (bif (match o.dst with|some d=>Nat.blt d nt|none=>true) then EJ c rec nt pre all V3 (i+1) r (st.put o.dst (.d .und)) K else none))
     else (let st:=st.set d (.d (.bool false));bif want then (bif (match o.dst with|some d=>Nat.blt d nt|none=>true) then EJ c rec nt pre all V3 (i+1) r (st.put o.dst (.d .und)) K else none) else on st)
    |_=>none
def rD (x:Nat)(xs:List Nat):Bool:=xs.any (Nat.beq x)
def meets (xs ys:List Nat):Bool:=xs.any fun x=>rD x ys
def To:V→List Nat
 | .ptr o _=>[o]
 | .rp o _ _ _=>[o]
 | .row o=>[o]
 | .sub o _ _ _=>[o]
 | .mp o=>[o]
 |_=>[]
def Vz:V→List Nat
 | .agg cs=>cs.flatMap To
 | .fn _ cs=>cs.flatMap To
 |v=>To v
def cU:List Operand→List Nat
 |[]=>[]
 | .tmp t::r=>t::cU r
 |_::r=>cU r
def MN:Op→Bool
 | .move _=>true
 | .assign _=>true
 | .pick ..=>true
 | .alloc _=>true
 | .box ..=>true
 | .build ..=>true
 | .load ..=>true
 | .nilCheck _=>true
 | .binOp ..=>true
 | .unOp ..=>true
 | .convert ..=>true
 | .makeFunc ..=>true
 | .fieldAddr ..=>true
 | .field ..=>true
 | .indexAddr ..=>true
 | .index ..=>true
 | .makeSlice ..=>true
 | .slice _ _ lo hi _=>lo.isSome||hi.isNone
 | .makeMap ..=>true
 | .lookup ..=>true
 | .extract ..=>true
 | .call q=>match q.callee with
  | .builtin .len=>true
  | .builtin .max=>true
  | .builtin .min=>true
  |_=>false
 |_=>false
def Sw:Op→Bool
 | .call q=>match q.callee with
  | .value _=>true
  |_=>false
 |_=>false
def looks:Op→Bool
 | .load ..=>true
 | .store ..=>true
 | .indexAddr ..=>true
 | .slice ..=>true
 | .convert ..=>true
 | .buildSlice ..=>true
 | .call _=>true
 | .lookup ..=>true
 | .mapUpdate ..=>true
 | .mapEntry ..=>true
 | .entryStore ..=>true
 | .makeInterface ..=>true
 |_=>false
def given (st:St)(o:Oper):List Nat:=
 bif !(looks o.op) then [] else
 let os:=nF [] ((cU o.op.operands.toList).flatMap fun t=>Vz (st.t t))
 bif Sw o.op then reach st.h 3 os else
 match o.op with
 | .store _ (.tmp t) _=>(match st.t t with | .ptr q _=>[q]|_=>os)
 |_=>os
structure sO where
 temps:List Nat
 dst:Option Nat
 objs:List Nat
 writes:List Nat
def pE (T F:List Nat)(st:St):St:=⟨fun t=>bif rD t T then st.t t else .top,fun o=>bif rD o F then st.h o else none,st.m⟩
def IH (nid o:Nat):Bool:=Nat.ble nid o&&Nat.blt o (nid+32)
def QY (F:List Nat)(nid:Nat)(h h':Nat→Option Ob):Nat→Option Ob:=fun o=>bif rD o F||IH nid o then h' o else h o
def UT (d:Option Nat)(xs:List Nat):Bool:=match d with|some d=>rD d xs|none=>false
def KY (nid:Nat)(a b:sO):Bool:=
 UT a.dst b.temps||UT b.dst a.temps||(match a.dst,b.dst with|some x,some y=>Nat.beq x y|_,_=>false)||meets a.writes b.objs||meets b.writes a.objs||b.objs.any (IH nid)
def oJ (V3:Nat)(VW:List Nat)(b:sO):Nat→List sO→Bool
 |_,[]=>true
 |j,a::r=>(rD j VW||!(KY (V3+32*j) a b))&&oJ V3 VW b (j+1) r
def gL (e:Edge):Bool:=match e.ground with
 | .textOnly _=>false
 | .gcOnly _=>false
 |_=>true
def tE (ancs:List (List Nat)):List Edge→List Nat
 |[]=>[]
 |e::r=>bif gL e then nF (nF [e.on] ((ancs[e.on]?).getD [])) (tE ancs r) else tE ancs r
def sB (i:Nat):List Edge→Bool
 |[]=>true
 |e::r=>(!(gL e)||Nat.blt e.on i)&&sB i r
def DJ (c:oA)(rec:Task→Out)(nt:Nat)(all:List Oper)(V3:Nat):Nat→List Oper→List sO→List (List Nat)→St→(St→Out)→Out
 |_,[],_,_,st,K=>K st
 |i,o::r,fs,ancs,st,K=>
  let VW:=tE ancs o.after.toList
  let T:=cU o.op.operands.toList
  let G:=match o.guard with|none=>[]|some (j,_)=>match (all[j]?).bind (·.dst) with|none=>[]|some d=>[d]
  let okd:=match o.dst with|some d=>Nat.blt d nt|none=>true
  let on (st:St):Out:=
   let F:=given st o
   let ft:sO:=⟨T++G,o.dst,F,bif MN o.op then [] else F⟩
   bif okd&&sB i o.after.toList&&oJ V3 VW ft 0 fs&&F.all (fun x=>Nat.blt x (V3+32*i)) then
    Im c rec o (V3+32*i) (pE T F st) fun v st'=>DJ c rec nt all V3 (i+1) r (fs++[ft]) (ancs++[VW]) { st.put o.dst v with h:=QY F (V3+32*i) st.h st'.h } K
   else none
  let off (st:St):Out:=
   let ft:sO:=⟨G,o.dst,[],[]⟩
   bif okd&&sB i o.after.toList&&oJ V3 VW ft 0 fs then DJ c rec nt all V3 (i+1) r (fs++[ft]) (ancs++[VW]) (st.put o.dst (.d .und)) K else none
  match o.guard with
  |none=>on st
  |some (j,want)=>
   match (all[j]?).bind (·.dst) with
   |none=>none
   |some d=>match st.t d with
    | .d .und=>off st
    | .d (.bool b)=>bif b then (let st:=st.set d (.d (.bool true));bif want then on st else off st)
     else (let st:=st.set d (.d (.bool false));bif want then off st else on st)
    |_=>none
def refine (st:St)(x:Operand)(b:Bool):St:=match x with | .tmp t=>st.set t (.d (.bool b))|_=>st
inductive Ex where
 |normal
 |ret
 |exit (id:Nat)
def Un (c:oA)(f:Nat):Operand→Code→List Nat
 | .tmp _,.skip=>[]
 | .tmp t,_=>c.cut f t
 |_,_=>[]
def exec (c:oA)(rec:Task→Out)(f nt:Nat)(H9:Sk)(pre:List (Nat×Nat)):Code→St→(Ex→St→Out)→Out
 | .skip,st,K=>K .normal st
 | .region _ ops draw,st,K=>bif draw then (bif c.P.follows .mixedOrders then DJ c rec nt ops.toList st.n 0 ops.toList [] [] st fun st'=>K .normal { st' with m:=⟨st.n+32*ops.size,st'.m.df⟩ } else none)
   else EJ c rec nt pre ops.toList st.n 0 ops.toList st fun st'=>K .normal { st' with m:=⟨st.n+32*ops.size,st'.m.df⟩ }
 | .seq a b,st,K=>exec c rec f nt H9 pre a st fun e st'=>match e with | .normal=>exec c rec f nt H9 pre b st' K|e=>K e st'
 | .cond x a b,st,K=>match Un c f x a with
  |t::ts=>
   let st:=RZ st (pre.map (·.1)) (t::ts)
   let sk:=La st (pre.map (·.1)) (t::ts)
   match SS sk pre st with
   |some cf=>J2 (rec (.loop f H9 pre st.m.df true 0 (.cond x a b) sk cf.ds)) fun ds=>bif I7 sk ds then K .normal ((cI sk ds).later st.m.df) else none
   |none=>none
  |[]=>match K2 st x with
  | .d (.bool t)=>bif t then exec c rec f nt H9 pre a (refine st x true) K else exec c rec f nt H9 pre b (refine st x false) K
  | .d .ub=>agree (exec c rec f nt H9 pre a st K) (exec c rec f nt H9 pre b st K)
  |_=>none
 | .block id (.loop body),st,K=>
  let st:=RZ st (pre.map (·.1)) ((c.keep f id).filter fun t=>!c.nowid f t)
  let sk:=La st (pre.map (·.1)) (c.keep f id)
  match SS sk pre st with
  |some cf=>J2 (rec (.loop f H9 pre st.m.df false id body sk cf.ds)) fun ds=>bif I7 sk ds then K .normal ((cI sk ds).later st.m.df) else none
  |none=>none
 | .block id b,st,K=>exec c rec f nt H9 pre b st fun e st'=>match e with | .exit j=>bif Nat.beq j id then K .normal st' else K (.exit j) st'|e=>K e st'
 | .exit id,st,K=>K (.exit id) st
 | .ret,st,K=>K .ret st
 |_,_,_=>none
def Av (c:oA)(rec:Task→Out)(f nt:Nat)(H9:Sk)(pre:List (Nat×Nat)):Code→St→(Ex→St→Out)→Out
 | .cond x a b,st,K=>match K2 st x with
  | .d (.bool t)=>bif t then exec c rec f nt H9 pre a (refine st x true) K else exec c rec f nt H9 pre b (refine st x false) K
  |_=>none
 |_,_,_=>none
def pS (c:oA)(rec:Task→Out)(rs:List ResultVar)(H9:Sk)(pre:List (Nat×Nat)):List (Nat×List (Nat×Nat))→St→Out
 |[],st=>finish c.P rs H9 pre st
 |(f,zs)::r,st=>qS c rec true f (zs.map fun x=>V.ptr x.1 x.2) st.n st fun _ st'=>pS c rec rs H9 pre r { st' with m:=⟨st.n+32,st'.m.df⟩ }
def run (c:oA):Nat→Task→Out
 |0,_=>none
 |n+1,.call f sk ds=>
  match c.CK f sk ds with
  |some r=>some (true,r)
  |none=>
   match c.P.funcs[f]? with
   |some fn=>(match fn.body with
    |some body=>
     let H9:=cF c.P (c.dres f) fn.resultTypes.toList sk
     let pre:=aG 0 sk.objs
     bif I7 sk ds then exec c (run c n) f fn.ntmps H9 pre body (cI sk ds) fun e st=>match e with
      | .ret=>pS c (run c n) fn.results.toList H9 pre st.m.df st
      | .normal=>pS c (run c n) fn.results.toList H9 pre st.m.df st
      | .exit _=>none
     else none
    |none=>none)
   |none=>none
 |n+1,.loop f H9 pre df once id body sk ds=>
  match c.P.funcs[f]? with
  |some fn=>
   bif I7 sk ds then (bif once then Av c (run c n) f fn.ntmps H9 pre body ((cI sk ds).later df) else exec c (run c n) f fn.ntmps H9 pre body ((cI sk ds).later df)) fun e st=>match e with
    | .ret=>pS c (run c n) fn.results.toList H9 pre st.m.df st
    | .normal=>bif !(NU df st.m.df) then none else (match SS sk pre st with|some cf=>bif once then some (false,cf.ds) else run c n (.loop f H9 pre df once id body sk cf.ds)|none=>none)
    | .exit j=>bif Nat.beq j id&&!once&&NU df st.m.df then (match SS sk pre st with|some cf=>some (false,cf.ds)|none=>none) else none
   else none
  |none=>none
def Tr:List (Nat×List D)→Nat→Option (List D)
 |[],_=>none
 |(m,xs)::r,n=>bif Nat.beq n m then some xs else Tr r n
def Mv:List (Nat×Nat×Nat)→Nat→Nat→Nat
 |[],_,_=>0
 |(a,b,v)::r,x,y=>bif Nat.beq x a&&Nat.beq y b then v else Mv r x y
def Mx:List (Nat×Nat×List Nat)→Nat→Nat→List Nat
 |[],_,_=>[]
 |(a,b,v)::r,x,y=>bif Nat.beq x a&&Nat.beq y b then v else Mx r x y
def mK (id:Nat):Code→Option Code
 | .block j (.loop b)=>bif Nat.beq j id then some b else mK id b
 | .block _ b=>mK id b
 | .loop b=>mK id b
 | .seq a b=>match mK id a with|some c=>some c|none=>mK id b
 | .cond _ a b=>match mK id a with|some c=>some c|none=>mK id b
 | .scope b=>mK id b
 |_=>none
def N9 (c:oA)(f id:Nat):Code:=match c.P.funcs[f]? with|some fn=>(match fn.body with|some b=>(mK id b).getD .skip|none=> .skip)|none=> .skip
end Go.AE
namespace Go.AE
def kH (h:Nat→Option Obj)(a:Addr):Option Value:=
 match h a.block with
 |some (.cells c _ _)=>if a.spot.isSome then none else c[a.off]?
 |_=>none
mutual
def VD (h:Nat→Option Obj):D→Value→Prop
 | .top,_=>True
 | .bool b,v=>v = .bool b
 | .int k n,v=>v = .int k n
 | .str s,v=>∃ b:ByteArray,v = .string b∧b.data.toList=s
 | .Z sz xs,v=>∃ A cap,v = .slice A xs.length cap∧xs.length≤cap∧cap≤maxLen∧(xs=[]∨∃ ad,A=some ad∧Aa h sz xs ad)
 | .nils _ _,v=>v = .slice none 0 0
 | .und,v=>v=undef
 | .agg cs,v=>∃ us:Array Value,v = .agg us∧vW h cs us.toList
 | .fn f,v=>v = .func (.func f) #[] #[]
 | .nilp,v=>v = .pointer none
 | .nilf,v=>v = .nilFunc
 | .nilm,v=>v = .map none
 | .nili,v=>v = .nilIface
 | .ub,v=>∃ b,v = .bool b
 | .iface t x,v=>∃ u,v = .iface t u∧VD h x u
 | .meth t nm x,v=>∃ u,v = .func (.method nm) #[.iface t u] #[]∧VD h x u
def vW (h:Nat→Option Obj):List D→List Value→Prop
 |[],us=>us=[]
 |x::xs,us=>∃ u r,us=u::r∧VD h x u∧vW h xs r
def Aa (h:Nat→Option Obj)(sz:Nat):List D→Addr→Prop
 |[],_=>True
 |x::xs,ad=>(∃ v:Value,v.cells.size=sz∧(∀ j u,v.cells[j]? = some u→kH h (ad.add j)=some u)∧(∀ u∈v.cells.toList,u.oneCell'=true)∧VD h x v)∧Aa h sz xs (ad.add sz)
end
def mY (h:Nat→Option Obj)(sz:Nat):List D→List Value→Prop
 |[],us=>us=[]
 |x::xs,us=>∃ (v:Value) (r:List Value),us=v.cells.toList++r∧v.cells.size=sz∧(∀ u∈v.cells.toList,u.oneCell'=true)∧VD h x v∧mY h sz xs r
structure G where
 h:Nat→Option Obj
 blk:Nat→Nat
 hdr:Nat→Value
inductive F2 {α β:Type} (r:α→β→Prop):List α→List β→Prop
 |nil:F2 r [] []
 |cons {a b zs bs}:r a b→F2 r zs bs→F2 r (a::zs) (b::bs)
def GB:Value→Nat | .slice _ n _=>n|_=>0
def VL (g:G):V→Value→Prop
 | .d x,v=>VD g.h x v
 | .ptr o off,v=>v = .pointer (some ⟨g.blk o,off,none⟩)
 | .el sz xs i off,v=>∃ ad,Aa g.h sz xs ad∧i<xs.length∧v = .pointer (some (ad.add (i*sz+off)))
 | .rp o sz i off,v=>i<GB (g.hdr o)∧∃ b,(g.hdr o).ownBlock=some b∧v = .pointer (some ⟨b,i*sz+off,none⟩)
 | .row o,v=>v=g.hdr o∧v.oneCell'=true
 | .sub o sz lo n,v=>lo+n≤GB (g.hdr o)∧∃ A cap,v = .slice A n cap∧n≤cap∧cap≤maxLen∧(n=0∨∃ b,(g.hdr o).ownBlock=some b∧A=some ⟨b,lo*sz,none⟩)
 | .agg _,_=>False
 | .fn f [],v=>v = .func (.func f) #[] #[]
 | .fn _ (_::_),_=>False
 | .tup _,_=>False
 | .mp o,v=>v = .map (some (g.blk o))
 | .bp _ o off,v=>v = .pointer none∨v = .pointer (some ⟨g.blk o,off,none⟩)
def VA (g:G):V→Value→Prop
 | .agg cs,v=>∃ us:Array Value,v = .agg us∧F2 (VL g) cs us.toList
 | .fn f (c::caps),v=>∃ us:Array Value,v = .func (.func f) #[] us∧F2 (VL g) (c::caps) us.toList
 |x,v=>VL g x v
def VV (g:G):V→Value→Prop
 | .tup vs,v=>∃ us:Array Value,v = .tuple us∧F2 (VA g) vs us.toList
 |x,v=>VA g x v
def Rx (n:Nat)(ns:List Nat)(xs:List D):Prop:=
 ∃ (last:D) (ks:List Nat),xs = .int .i64 n::last::ks.map (fun k=>D.int .i64 (k:Nat))∧(∀ k,k∈ns↔k∈ks)∧(∀ k∈ks,k<n)∧∀ kk j,last = .int kk j→∃ j':Nat,j=(j':Int)∧ns.getLast? = some j'
def OB (g:G)(o:Nat):Ob→World→Prop
 | .var cs,w=>∃ (c:Array Value) (e:TypeId),w.heap[g.blk o]? = some (.cells c e (0,0))∧F2 (VA g) cs c.toList∧(∀ u∈c.toList,u.oneCell'=true)∧(∀ t o' f,V.bp t o' f∈cs→e=t)
 | .mp kt xs,w=>∃ (es:Array MapEntry) (clock:Nat),w.heap[g.blk o]? = some (.map es clock)∧F2 (fun x (m:MapEntry)=>VD g.h (x.at_ 0) m.key∧VD g.h (x.at_ 1) m.val∧aT kt (x.at_ 0)=true) xs es.toList∧clock=es.size∧∀ j (m:MapEntry),es[j]? = some m→m.born=j
 | .it _ mo xs,w=>∃ (n:Nat) (ns:List Nat),Rx n ns xs∧w.heap[g.blk o]? = some (.mapIter (some (g.blk mo)) n ns.toArray n)
 | .row e sz xs false,w=>∃ us,0<sz∧w.ownsRow 0 e sz (g.hdr o) xs.length us∧mY g.h sz xs us
 | .row _ sz xs true,_=>(g.hdr o = .slice none 0 0∧xs=[])∨∃ b cap,g.hdr o = .slice (some ⟨b,0,none⟩) xs.length cap∧xs.length≤cap∧cap≤maxLen∧Aa g.h sz xs ⟨b,0,none⟩
def jY (g:G)(o:Nat):Ob→Option Nat
 | .var _=>some (g.blk o)
 | .row _ _ _ false=>(g.hdr o).ownBlock
 | .row _ _ _ true=>none
 | .mp _ _=>some (g.blk o)
 | .it ..=>some (g.blk o)
def V.lX (p:Nat→Prop):V→Prop
 | .ptr o _=>p o
 | .rp o _ _ _=>p o
 | .row o=>p o
 | .sub o _ _ _=>p o
 | .mp o=>p o
 | .bp _ o _=>p o
 |_=>True
def V.V7 (p:Nat→Prop):V→Prop
 | .agg cs=>∀ v∈cs,v.lX p
 | .fn _ caps=>∀ v∈caps,v.lX p
 | .tup _=>False
 |v=>v.lX p
def V.T0 (p:Nat→Prop):V→Prop
 | .tup vs=>∀ v∈vs,v.V7 p
 |v=>v.V7 p
def Ob.T0 (p:Nat→Prop):Ob→Prop
 | .var cs=>∀ v∈cs,v.V7 p
 | .it _ mo _=>p mo
 |_=>True
structure P3 (u:Nat→Option Obj) (p:Nat→Prop) (g:G) (h:Nat→Option Ob) (w:World):Prop where
 frz:∀ b x,g.h b=some x→w.heap[b]? = some x
 unt:∀ b x,u b=some x→w.heap[b]? = some x
 ob:∀ o x,h o=some x→OB g o x w
 sep:∀ o x b,h o=some x→jY g o x=some b→g.h b=none∧u b=none
 inj:∀ o o' x x' b,h o=some x→h o'=some x'→jY g o x=some b→jY g o' x'=some b→o=o'
 use:∀ o x,h o=some x→p o∧x.T0 p
 dj:∀ b,g.h b=none∨u b=none
structure Ww (u:Nat→Option Obj) (p:Nat→Prop) (g:G) (st:St) (tm:Nat→Value) (w:World):Prop where
 hp:P3 u p g st.h w
 tm:∀ t,VV g (st.t t) (tm t)
 nm:∀ t,(st.t t).T0 p
structure Ext (g:G) (w:World) (g':G) (w':World):Prop where
 h:∀ b x,g.h b=some x→g'.h b=some x
 os:w'.os=w.os
 tape:w'.tape=w.tape
 output:w'.output=w.output
 size:w.heap.size≤w'.heap.size
theorem Ext.refl (g:G)(w:World):Ext g w g w:=⟨fun _ _ h=>h,rfl,rfl,rfl,B9 _⟩
theorem Ext.trans {g1 g2 g3:G}{w1 w2 w3:World}(a:Ext g1 w1 g2 w2)(b:Ext g2 w2 g3 w3):Ext g1 w1 g3 w3:=
 ⟨fun x y h=>b.h x y (a.h x y h),b.os.trans a.os,b.tape.trans a.tape,b.output.trans a.output,Nat.le_trans a.size b.size⟩
theorem pI.KD {a b:pI}(h:pI.same a b=true):a=b:=by
 cases a<;>cases b<;>simp_all [pI.same]
theorem F2.length {α β:Type}{r:α→β→Prop}{zs:List α}{bs:List β}(h:F2 r zs bs):zs.length=bs.length:=by
 induction h with
 |nil=>rfl
 |cons _ _ ih=>simp [ih]
theorem F2.mono {α β:Type}{r s:α→β→Prop}{zs:List α}{bs:List β}(h:F2 r zs bs)(hm:∀ a∈zs,∀ b,r a b→s a b):F2 s zs bs:=by
 induction h with
 |nil=>exact .nil
 |cons hr _ ih=>exact .cons (hm _ (by simp) _ hr) (ih fun a ha=>hm a (by simp [ha]))
theorem F2.get {α β:Type}{r:α→β→Prop}{zs:List α}{bs:List β}(h:F2 r zs bs):∀ (j:Nat) (a:α),zs[j]? = some a→∃ b,bs[j]? = some b∧r a b:=by
 induction h with
 |nil=>intro j a ha;simp at ha
 |cons hr _ ih=>
  intro j a ha
  cases j with
  |zero=>simp at ha;subst ha;exact⟨_,rfl,hr⟩
  |succ j=>simpa using ih j a (by simpa using ha)
theorem F2.append {α β:Type}{r:α→β→Prop}{zs zs':List α}{bs bs':List β}(h:F2 r zs bs)(h':F2 r zs' bs'):F2 r (zs++zs') (bs++bs'):=by
 induction h with
 |nil=>exact h'
 |cons hr _ ih=>exact .cons hr ih
theorem F2.drop {α β:Type}{r:α→β→Prop}{zs:List α}{bs:List β}(h:F2 r zs bs):∀ n,F2 r (zs.drop n) (bs.drop n):=by
 induction h with
 |nil=>intro n;simp;exact .nil
 |cons hr ht ih=>
  intro n
  cases n with
  |zero=>exact .cons hr ht
  |succ n=>simpa using ih n
theorem F2.take {α β:Type}{r:α→β→Prop}{zs:List α}{bs:List β}(h:F2 r zs bs):∀ n,F2 r (zs.take n) (bs.take n):=by
 induction h with
 |nil=>intro n;simp;exact .nil
 |cons hr _ ih=>
  intro n
  cases n with
  |zero=>simp;exact .nil
  |succ n=>simpa using F2.cons hr (ih n)
theorem F2.set {α β:Type}{r:α→β→Prop}{zs:List α}{bs:List β}(h:F2 r zs bs){a:α}{b:β}(hr:r a b):∀ n,F2 r (zs.set n a) (bs.set n b):=by
 induction h with
 |nil=>intro n;simp;exact .nil
 |cons hr' ht ih=>
  intro n
  cases n with
  |zero=>exact .cons hr ht
  |succ n=>exact .cons hr' (ih n)
theorem F2.ED {α β γ:Type}{r:α→β→Prop}{f:γ→α}{cs:List γ}{bs:List β}(h:F2 (fun c b=>r (f c) b) cs bs):F2 r (cs.map f) bs:=by
 induction h with
 |nil=>exact .nil
 |cons hr _ ih=>exact .cons hr ih
theorem F2.IT {α β γ:Type}{r:α→β→Prop}{f:γ→α}:∀ {cs:List γ} {bs:List β},F2 r (cs.map f) bs→F2 (fun c b=>r (f c) b) cs bs
 |[],_,h=>by cases h;exact .nil
 |_::_,_,h=>by cases h with|cons hr ht=>exact .cons hr (F2.IT ht)
theorem jG (h:Nat→Option Obj):∀ (xs:List D) (us:List Value),vW h xs us↔F2 (VD h) xs us
 |[],us=>by
  simp only [vW]
  exact⟨fun e=>by subst e;exact .nil,fun e=>by cases e;rfl⟩
 |x::xs,us=>by
  simp only [vW]
  constructor
  ·rintro ⟨u,r,rfl,hu,hr⟩;exact .cons hu ((jG h xs r).1 hr)
  ·intro e
   cases e with
   |cons hu hr=>exact⟨_,_,rfl,hu,(jG h xs _).2 hr⟩
theorem IA {h h':Nat→Option Obj}(hh:∀ b x,h b=some x→h' b=some x){a:Addr}{v:Value}(e:kH h a=some v):kH h' a=some v:=by
 unfold kH at *
 cases hb:h a.block with
 |none=>simp [hb] at e
 |some x=>rw [hb] at e;rw [hh _ _ hb];exact e
mutual
theorem jU {h h':Nat→Option Obj}(hh:∀ b x,h b=some x→h' b=some x):∀ (x:D) (v:Value),VD h x v→VD h' x v
 | .top,_,_=>trivial
 | .bool _,_,e=>e
 | .int _ _,_,e=>e
 | .str _,_,e=>e
 | .nils _ _,_,e=>e
 | .und,_,e=>e
 | .fn _,_,e=>e
 | .nilp,_,e=>e
 | .nilf,_,e=>e
 | .nilm,_,e=>e
 | .nili,_,e=>e
 | .ub,_,e=>e
 | .Z sz xs,v,e=>by
  obtain⟨A,cap,h1,h2,h3,h4⟩:=e
  refine⟨A,cap,h1,h2,h3,?_⟩
  rcases h4 with h4|⟨ad,ha,hr⟩
  ·exact .inl h4
  ·exact .inr ⟨ad,ha,CR hh sz xs ad hr⟩
 | .agg cs,v,e=>by
  obtain⟨us,h1,h2⟩:=e
  exact⟨us,h1,WD hh cs _ h2⟩
 | .iface t x,v,e=>by
  obtain⟨u,h1,h2⟩:=e
  exact⟨u,h1,jU hh x u h2⟩
 | .meth t nm x,v,e=>by
  obtain⟨u,h1,h2⟩:=e
  exact⟨u,h1,jU hh x u h2⟩
theorem WD {h h':Nat→Option Obj}(hh:∀ b x,h b=some x→h' b=some x):∀ (xs:List D) (us:List Value),vW h xs us→vW h' xs us
 |[],_,e=>e
 |x::xs,us,e=>by
  obtain⟨u,r,h1,h2,h3⟩:=e
  exact⟨u,r,h1,jU hh x u h2,WD hh xs r h3⟩
theorem CR {h h':Nat→Option Obj}(hh:∀ b x,h b=some x→h' b=some x):∀ (sz:Nat) (xs:List D) (ad:Addr),Aa h sz xs ad→Aa h' sz xs ad
 |_,[],_,_=>trivial
 |sz,x::xs,ad,e=>by
  obtain⟨⟨v,h1,h2,h3,h4⟩,h5⟩:=e
  exact⟨⟨v,h1,fun j u hj=>IA hh (h2 j u hj),h3,jU hh x v h4⟩,CR hh sz xs _ h5⟩
end
theorem KH {h h':Nat→Option Obj}(hh:∀ b x,h b=some x→h' b=some x):∀ (sz:Nat) (xs:List D) (us:List Value),mY h sz xs us→mY h' sz xs us
 |_,[],_,e=>e
 |sz,x::xs,us,e=>by
  obtain⟨v,r,h1,h2,h3,h4,h5⟩:=e
  exact⟨v,r,h1,h2,h3,jU hh x v h4,KH hh sz xs r h5⟩
structure L8 (p:Nat→Prop) (g g':G):Prop where
 h:∀ b x,g.h b=some x→g'.h b=some x
 blk:∀ o,p o→g'.blk o=g.blk o
 hdr:∀ o,p o→g'.hdr o=g.hdr o
theorem L8.refl (p:Nat→Prop)(g:G):L8 p g g:=⟨fun _ _ h=>h,fun _ _=>rfl,fun _ _=>rfl⟩
theorem VL.agree {p:Nat→Prop}{g g':G}(a:L8 p g g'):∀ {x:V} {v:Value},x.lX p→VL g x v→VL g' x v:=by
 intro x v hb e
 match x with
 | .d x=>exact jU a.h _ _ e
 | .ptr o off=>simp only [VL] at *;rw [a.blk o hb];exact e
 | .el sz xs i off=>simp only [VL] at *;obtain⟨ad,h1,h2⟩:=e;exact⟨ad,CR a.h _ _ _ h1,h2⟩
 | .rp o sz i off=>simp only [VL] at *;rw [a.hdr o hb];exact e
 | .row o=>simp only [VL] at *;rw [a.hdr o hb];exact e
 | .sub o sz lo n=>simp only [VL] at *;rw [a.hdr o hb];exact e
 | .agg _=>exact e
 | .fn _ []=>exact e
 | .fn _ (_::_)=>exact e
 | .tup _=>exact e
 | .mp o=>simp only [VL] at *;rw [a.blk o hb];exact e
 | .bp _ o f=>simp only [VL] at *;rw [a.blk o hb];exact e
theorem VA.agree {p:Nat→Prop}{g g':G}(a:L8 p g g'):∀ {x:V} {v:Value},x.V7 p→VA g x v→VA g' x v:=by
 intro x v hb e
 match x with
 | .agg cs=>obtain⟨us,h1,h2⟩:=e;exact⟨us,h1,h2.mono fun c hc b=>VL.agree a (hb c hc)⟩
 | .fn f (c::caps)=>obtain⟨us,h1,h2⟩:=e;exact⟨us,h1,h2.mono fun c hc b=>VL.agree a (hb c hc)⟩
 | .fn f []=>exact VL.agree (x:= .fn f []) a trivial e
 | .d x=>exact VL.agree (x:= .d x) a trivial e
 | .ptr o off=>exact VL.agree (x:= .ptr o off) a hb e
 | .el sz xs i off=>exact VL.agree (x:= .el sz xs i off) a trivial e
 | .rp o sz i off=>exact VL.agree (x:= .rp o sz i off) a hb e
 | .row o=>exact VL.agree (x:= .row o) a hb e
 | .sub o sz lo n=>exact VL.agree (x:= .sub o sz lo n) a hb e
 | .mp o=>exact VL.agree (x:= .mp o) a hb e
 | .bp t o f=>exact VL.agree (x:= .bp t o f) a hb e
 | .tup vs=>exact e
theorem VV.agree {p:Nat→Prop}{g g':G}(a:L8 p g g'):∀ {x:V} {v:Value},x.T0 p→VV g x v→VV g' x v:=by
 intro x v hb e
 match x with
 | .tup vs=>obtain⟨us,h1,h2⟩:=e;exact⟨us,h1,h2.mono fun c hc b=>VA.agree a (hb c hc)⟩
 | .agg cs=>exact VA.agree (x:= .agg cs) a hb e
 | .fn f caps=>cases caps with
  |nil=>exact VA.agree (x:= .fn f []) a hb e
  |cons c caps=>exact VA.agree (x:= .fn f (c::caps)) a hb e
 | .d x=>exact VA.agree (x:= .d x) a hb e
 | .ptr o off=>exact VA.agree (x:= .ptr o off) a hb e
 | .el sz xs i off=>exact VA.agree (x:= .el sz xs i off) a hb e
 | .rp o sz i off=>exact VA.agree (x:= .rp o sz i off) a hb e
 | .row o=>exact VA.agree (x:= .row o) a hb e
 | .sub o sz lo n=>exact VA.agree (x:= .sub o sz lo n) a hb e
 | .mp o=>exact VA.agree (x:= .mp o) a hb e
 | .bp t o f=>exact VA.agree (x:= .bp t o f) a hb e
theorem V.lX.mono {p q:Nat→Prop}(h:∀ o,p o→q o):∀ {x:V},x.lX p→x.lX q:=by
 intro x e
 match x with
 | .ptr o _=>exact h o e
 | .rp o _ _ _=>exact h o e
 | .row o=>exact h o e
 | .sub o _ _ _=>exact h o e
 | .mp o=>exact h o e
 | .bp _ o _=>exact h o e
 | .d _ | .el .. | .agg _ | .fn .. | .tup _=>trivial
theorem V.V7.mono {p q:Nat→Prop}(h:∀ o,p o→q o):∀ {x:V},x.V7 p→x.V7 q:=by
 intro x e
 match x with
 | .agg cs=>exact fun v hv=>V.lX.mono h (e v hv)
 | .fn _ caps=>exact fun v hv=>V.lX.mono h (e v hv)
 | .ptr o _=>exact h o e
 | .rp o _ _ _=>exact h o e
 | .row o=>exact h o e
 | .sub o _ _ _=>exact h o e
 | .mp o=>exact h o e
 | .bp _ o _=>exact h o e
 | .tup _=>exact e
 | .d _ | .el ..=>trivial
theorem V.T0.mono {p q:Nat→Prop}(h:∀ o,p o→q o):∀ {x:V},x.T0 p→x.T0 q:=by
 intro x e
 match x with
 | .tup vs=>exact fun v hv=>V.V7.mono h (e v hv)
 | .agg cs=>exact V.V7.mono (x:= .agg cs) h e
 | .fn f caps=>exact V.V7.mono (x:= .fn f caps) h e
 | .mp o=>exact h o e
 | .bp _ o _=>exact h o e
 | .ptr o _=>exact h o e
 | .rp o _ _ _=>exact h o e
 | .row o=>exact h o e
 | .sub o _ _ _=>exact h o e
 | .d _ | .el ..=>trivial
theorem Ob.T0.mono {p q:Nat→Prop}(h:∀ o,p o→q o){x:Ob}(e:x.T0 p):x.T0 q:=by
 match x with
 | .var cs=>exact fun v hv=>V.V7.mono h (e v hv)
 | .row ..=>trivial
 | .mp ..=>trivial
 | .it _ mo _=>exact h mo e
theorem yR {u:Value}(h:u.oneCell'=true):u.cells=#[u]:=by cases u<;>first|rfl|(simp [Value.oneCell'] at h)
theorem jF {g:G}{x:V}{v:Value}(h:VL g x v):VA g x v:=by
 match x with
 | .agg _=>exact h.elim
 | .fn f []=>exact h
 | .fn f (_::_)=>exact h.elim
 | .tup _=>exact h.elim
 | .d x=>exact h
 | .ptr o off=>exact h
 | .el sz xs i off=>exact h
 | .rp o sz i off=>exact h
 | .row o=>exact h
 | .sub o sz lo n=>exact h
 | .mp o=>exact h
 | .bp _ o f=>exact h
theorem eF {g:G}{x:V}{v:Value}(h:VA g x v):VV g x v:=by
 match x with
 | .tup _=>exact h.elim
 | .agg _=>exact h
 | .fn f []=>exact h
 | .fn f (_::_)=>exact h
 | .d x=>exact h
 | .ptr o off=>exact h
 | .el sz xs i off=>exact h
 | .rp o sz i off=>exact h
 | .row o=>exact h
 | .sub o sz lo n=>exact h
 | .mp o=>exact h
 | .bp _ o f=>exact h
end Go.AE
namespace Go.AE
open Go.RowKit
theorem cN (a:Addr)(i j:Nat):(a.add i).add j=a.add (i+j):=by
 unfold Addr.add
 by_cases hi:i=0<;>by_cases hj:j=0<;>simp [hi,hj,Nat.add_assoc]
theorem K9 (b o i:Nat):(⟨b,o,none⟩:Addr).add i=⟨b,o+i,none⟩:=by unfold Addr.add;split<;>simp_all
theorem tD {h:Nat→Option Obj}{sz:Nat}:∀ {xs:List D} {ad:Addr},Aa h sz xs ad→
  ∃ us,mY h sz xs us∧∀ j u,us[j]? = some u→kH h (ad.add j)=some u
 |[],_,_=>⟨[],rfl,fun j u hj=>by simp at hj⟩
 |x::xs,ad,e=>by
  obtain⟨⟨v,h1,h2,h3,h4⟩,h5⟩:=e
  obtain⟨us,k1,k2⟩:=tD h5
  refine⟨v.cells.toList++us,⟨v,us,rfl,h1,h3,h4,k1⟩,fun j u hj=>?_⟩
  rw [List.getElem?_append] at hj
  split at hj
  ·exact h2 j u (by simpa using hj)
  ·rename_i hlt
   have hsz:v.cells.toList.length=sz:=by simpa using h1
   have:=k2 _ u hj
   rw [cN] at this
   rw [show sz+(j-v.cells.toList.length)=j from by omega] at this
   exact this
theorem oI {h h':Nat→Option Obj}(hh:∀ b x,h b=some x→h' b=some x){sz:Nat}:∀ {xs:List D} {ad:Addr} {us:List Value},mY h sz xs us→
  (∀ j u,us[j]? = some u→kH h' (ad.add j)=some u)→Aa h' sz xs ad
 |[],_,_,_,_=>trivial
 |x::xs,ad,us,e,k=>by
  obtain⟨v,r,rfl,h1,h3,h4,h5⟩:=e
  have hsz:v.cells.toList.length=sz:=by simpa using h1
  refine⟨⟨v,h1,fun j u hj=>k j u ?_,h3,jU hh x v h4⟩,oI hh h5 fun j u hj=>?_⟩
  ·have hjl:j<v.cells.toList.length:=by
    rcases Nat.lt_or_ge j v.cells.size with hl|hl
    ·simpa using hl
    ·rw [Array.getElem?_eq_none hl] at hj;cases hj
   rw [List.getElem?_append_left hjl]
   simpa using hj
  ·rw [cN]
   refine k (sz+j) u ?_
   rw [F3 (by omega),hsz,Nat.add_sub_cancel_left]
   exact hj
theorem hJ {h:Nat→Option Obj}{sz:Nat}:∀ {xs:List D} {us:List Value},mY h sz xs us→us.length=xs.length*sz
 |[],_,e=>by subst e;simp
 |x::xs,us,e=>by
  obtain⟨v,r,rfl,h1,_,_,h5⟩:=e
  have:=hJ h5
  simp [h1,this,Nat.add_mul,Nat.add_comm]
theorem CQ {h:Nat→Option Obj}{sz:Nat}:∀ {xs:List D} {us:List Value},mY h sz xs us→∀ u∈us,u.oneCell'=true
 |[],_,e=>by subst e;simp
 |x::xs,us,e=>by
  obtain⟨v,r,rfl,_,h3,_,h5⟩:=e
  intro u hu
  rcases D3.1 hu with hu|hu
  ·exact h3 u hu
  ·exact CQ h5 u hu
theorem qJ {h:Nat→Option Obj}{sz:Nat}:∀ {xs ys:List D} {us vs:List Value},mY h sz xs us→mY h sz ys vs→mY h sz (xs++ys) (us++vs)
 |[],_,_,_,e,k=>by subst e;exact k
 |x::xs,ys,us,vs,e,k=>by
  obtain⟨v,r,rfl,h1,h3,h4,h5⟩:=e
  exact⟨v,r++vs,by simp,h1,h3,h4,qJ h5 k⟩
theorem tC {h:Nat→Option Obj}{sz:Nat}:∀ {xs:List D} {us:List Value} (n:Nat),mY h sz xs us→mY h sz (xs.drop n) (us.drop (n*sz))
 |[],us,n,e=>by subst e;simp [mY]
 |x::xs,us,0,e=>by simpa using e
 |x::xs,us,n+1,e=>by
  obtain⟨v,r,rfl,h1,h3,h4,h5⟩:=e
  have hsz:v.cells.toList.length=sz:=by simpa using h1
  have:=tC n h5
  have e1:(v.cells.toList++r).drop ((n+1)*sz)=r.drop (n*sz):=by
   rw [List.drop_append,hsz,D4 (by rw [hsz,Nat.add_mul];omega),List.nil_append,show (n+1)*sz-sz=n*sz from by rw [Nat.add_mul];omega]
  rw [e1]
  simpa using this
theorem qK {h:Nat→Option Obj}{sz:Nat}:∀ {xs:List D} {us:List Value} (n:Nat),mY h sz xs us→mY h sz (xs.take n) (us.take (n*sz))
 |[],us,n,e=>by subst e;simp [mY]
 |x::xs,us,0,e=>by simp [mY]
 |x::xs,us,n+1,e=>by
  obtain⟨v,r,rfl,h1,h3,h4,h5⟩:=e
  have hsz:v.cells.toList.length=sz:=by simpa using h1
  have:=qK n h5
  refine⟨v,r.take (n*sz),?_,h1,h3,h4,this⟩
  rw [List.take_append,hsz,List.take_of_length_le (by rw [hsz,Nat.add_mul];omega),show (n+1)*sz-sz=n*sz from by rw [Nat.add_mul];omega]
theorem SF {h:Nat→Option Obj}{sz:Nat}:∀ {xs:List D} {us:List Value} {i:Nat} {x:D},mY h sz xs us→xs[i]? = some x→
  ∃ v:Value,v.cells.size=sz∧(∀ j u,v.cells[j]? = some u→us[i*sz+j]? = some u)∧(∀ u∈v.cells.toList,u.oneCell'=true)∧VD h x v
 |[],_,i,x,_,hx=>by simp at hx
 |y::xs,us,0,x,e,hx=>by
  obtain⟨v,r,rfl,h1,h3,h4,h5⟩:=e
  simp at hx;subst hx
  refine⟨v,h1,fun j u hj=>?_,h3,h4⟩
  have hjl:j<v.cells.size:=by
   rcases Nat.lt_or_ge j v.cells.size with hl|hl
   ·exact hl
   ·rw [Array.getElem?_eq_none hl] at hj;cases hj
  rw [List.getElem?_append_left (by simpa using (by omega:0*sz+j<v.cells.size))]
  simpa using hj
 |y::xs,us,i+1,x,e,hx=>by
  obtain⟨v,r,rfl,h1,h3,h4,h5⟩:=e
  obtain⟨v',k1,k2,k3,k4⟩:=SF (i:=i) h5 (by simpa using hx)
  have hsz:v.cells.toList.length=sz:=by simpa using h1
  refine⟨v',k1,fun j u hj=>?_,k3,k4⟩
  rw [F3 (by rw [hsz,Nat.add_mul];omega),hsz,show (i+1)*sz+j-sz=i*sz+j from by rw [Nat.add_mul];omega]
  exact k2 j u hj
def Iw (w:World)(h:Nat→Option Obj)(sz:Nat)(xs:List D)(v:Value):Prop:=
 ∃ A cap us,v = .slice A xs.length cap∧xs.length≤cap∧cap≤maxLen∧mY h sz xs us∧(xs=[]∨∃ ad,A=some ad∧∀ j u,us[j]? = some u→w.cell? (ad.add j)=some u)
theorem qP {w:World}{h:Nat→Option Obj}(hf:∀ b x,h b=some x→w.heap[b]? = some x){a:Addr}{v:Value}(e:kH h a=some v):w.cell? a=some v:=by
 unfold kH at e
 unfold World.cell?
 cases hb:h a.block with
 |none=>simp [hb] at e
 |some x=>rw [hb] at e;rw [hf _ _ hb];exact e
theorem IN {w:World}{h:Nat→Option Obj}(hf:∀ b x,h b=some x→w.heap[b]? = some x){sz:Nat}{xs:List D}{v:Value}(e:VD h (.Z sz xs) v):Iw w h sz xs v:=by
 obtain⟨A,cap,h1,h2,h3,h4⟩:=e
 rcases h4 with rfl|⟨ad,ha,hr⟩
 ·exact⟨A,cap,[],h1,h2,h3,rfl,.inl rfl⟩
 ·obtain⟨us,k1,k2⟩:=tD hr
  exact⟨A,cap,us,h1,h2,h3,k1,.inr ⟨ad,ha,fun j u hj=>qP hf (k2 j u hj)⟩⟩
theorem S4 {w:World}{base e sz n:Nat}{v:Value}{us:List Value}(h:w.ownsRow base e sz v n us) :
  (v = .slice none 0 0∧n=0∧us=[])∨∃ b cap cur,v = .slice (some ⟨b,0,none⟩) n cap∧w.heap[b]? = some (.cells cur e (0,0))∧n≤cap∧cap≤maxLen∧cur.size=cap*sz∧cur.toList.take (n*sz)=us∧us.length=n*sz:=by
 obtain⟨hl,h⟩:=h
 rcases h with ⟨h1,h2⟩|⟨b,cap,cur,h1,_,h3,h4,h5,h6,h7⟩
 ·subst h2;exact .inl ⟨h1,rfl,D1 (by simpa using hl)⟩
 ·exact .inr ⟨b,cap,cur,h1,h3,h4,h5,h6,h7,hl⟩
theorem HA {w:World}{b n sz:Nat}{e:TypeId}{cur:Array Value}{us:List Value}(hb:w.heap[b]? = some (.cells cur e (0,0)))(ht:cur.toList.take (n*sz)=us) :
  ∀ j u,us[j]? = some u→w.cell? ((⟨b,0,none⟩:Addr).add j)=some u:=by
 intro j u hj
 rw [K9,C5,cell_of_row w b j cur e (0,0) hb]
 rw [← ht,List.getElem?_take] at hj
 split at hj
 ·simpa using hj
 ·cases hj
theorem XS {w:World}{h:Nat→Option Obj}{e sz:Nat}{xs:List D}{v:Value}{us:List Value}(ho:w.ownsRow 0 e sz v xs.length us)(hf:mY h sz xs us):Iw w h sz xs v:=by
 rcases S4 ho with ⟨rfl,h2,rfl⟩|⟨b,cap,cur,rfl,h3,h4,h5,_,h7,_⟩
 ·have:xs=[]:=D1 h2
  subst this
  exact⟨none,0,[],rfl,B9 _,C4 _,rfl,.inl rfl⟩
 ·exact⟨some ⟨b,0,none⟩,cap,us,rfl,h4,h5,hf,.inr ⟨_,rfl,HA h3 h7⟩⟩
section
variable {u:Nat→Option Obj} {p:Nat→Prop} {g:G} {h:Nat→Option Ob} {w:World}
theorem sC {o e sz:Nat}{xs:List D}{fz:Bool}(hob:OB g o (.row e sz xs fz) w):GB (g.hdr o)=xs.length:=by
 cases fz with
 |false=>
  obtain⟨us,_,ho,_⟩:=hob
  rcases S4 ho with ⟨h1,h2,_⟩|⟨b,cap,cur,h1,_⟩
  ·rw [h1,h2];rfl
  ·rw [h1];rfl
 |true=>
  rcases hob with ⟨h1,h2⟩|⟨b,cap,h1,_⟩
  ·rw [h1,h2];rfl
  ·rw [h1];rfl
theorem EV (hs:P3 u p g h w){o e sz:Nat}{xs:List D}{fz:Bool}(ho:h o=some (.row e sz xs fz)):Iw w g.h sz xs (g.hdr o):=by
 have hob:=hs.ob _ _ ho
 cases fz with
 |false=>
  obtain⟨us,_,h1,h2⟩:=hob
  exact XS h1 h2
 |true=>
  rcases hob with ⟨h1,h2⟩|⟨b,cap,h1,h2,h3,h4⟩
  ·subst h2;rw [h1];exact⟨none,0,[],rfl,B9 _,C4 _,rfl,.inl rfl⟩
  ·exact IN hs.frz ⟨some ⟨b,0,none⟩,cap,h1,h2,h3,.inr ⟨_,rfl,h4⟩⟩
theorem RN (hs:P3 u p g h w){o e sz:Nat}{xs:List D}{fz:Bool}(ho:h o=some (.row e sz xs fz)){b:Nat}(hb:(g.hdr o).ownBlock=some b) :
  ∃ us,mY g.h sz xs us∧∀ j v,us[j]? = some v→w.cell? ⟨b,j,none⟩=some v:=by
 obtain⟨A,cap,us,h1,h2,h3,h4,h5⟩:=EV hs ho
 refine⟨us,h4,fun j v hj=>?_⟩
 rcases h5 with rfl|⟨ad,rfl,h6⟩
 ·have:=hJ h4;simp at this;subst this;simp at hj
 ·have hob:=hs.ob _ _ ho
  have hform:g.hdr o = .slice none 0 0∨∃ b cap,g.hdr o = .slice (some ⟨b,0,none⟩) xs.length cap:=by
   cases fz with
   |false=>
    obtain⟨us,_,k1,_⟩:=hob
    rcases S4 k1 with ⟨k,_,_⟩|⟨b,cap,cur,k,_⟩
    ·exact .inl k
    ·exact .inr ⟨b,cap,k⟩
   |true=>
    rcases hob with ⟨k,_⟩|⟨b,cap,k,_⟩
    ·exact .inl k
    ·exact .inr ⟨b,cap,k⟩
  rcases hform with k|⟨b',cap',k⟩
  ·rw [h1] at k;cases k
  ·rw [k] at hb h1
   simp only [Value.ownBlock,B1] at hb
   subst hb
   have:ad=⟨b',0,none⟩:=by simpa using (by injection h1 with h1;exact h1.symm:some ad=some _)
   subst this
   have:=h6 j v hj
   rwa [K9,C5] at this
theorem uL (hs:P3 u p g h w){x:V}{v:Value}(hv:VV g x v){sz:Nat}{xs:List D}(hl:MU h x=some (sz,xs)):Iw w g.h sz xs v:=by
 unfold MU at hl
 split at hl
 ·simp only [B1,C7] at hl
  obtain⟨rfl,rfl⟩:=hl
  exact IN hs.frz hv
 ·simp only [B1,C7] at hl
  obtain⟨rfl,rfl⟩:=hl
  have hv:v = .slice none 0 0:=hv
  subst hv
  exact⟨none,0,[],rfl,B9 _,C4 _,rfl,.inl rfl⟩
 ·split at hl
  ·rename_i ho
   simp only [B1,C7] at hl
   obtain⟨rfl,rfl⟩:=hl
   have hv:v=g.hdr _:=hv.1
   subst hv
   exact EV hs ho
  ·cases hl
 ·split at hl
  ·rename_i o z lo n _ _ sz' xs' fz ho
   cases hz:Nat.beq z sz' with
   |false=>rw [hz] at hl;cases hl
   |true=>
    rw [hz] at hl
    simp only [cond_true,B1,C7] at hl
    obtain⟨rfl,rfl⟩:=hl
    have hz:z=sz':=B0 hz
    subst hz
    obtain⟨hlen,A,cap,rfl,hn,hcm,hA⟩:=(hv:VL g (.sub o z lo n) v)
    rw [sC (hs.ob _ _ ho)] at hlen
    have hlen':((xs'.drop lo).take n).length=n:=by simp;omega
    obtain⟨A',cap',us,h1,h2,h3,h4,h5⟩:=EV hs ho
    refine⟨A,cap,(us.drop (lo*z)).take (n*z),by rw [hlen'],by omega,hcm,qK n (tC lo h4),?_⟩
    rcases hA with rfl|⟨b,hb,rfl⟩
    ·left;simp
    ·right
     refine⟨_,rfl,fun j v hj=>?_⟩
     obtain⟨us',k1,k2⟩:=RN hs ho hb
     obtain⟨_,_,_,_,_,_,_,_⟩:=EV hs ho
     rw [List.getElem?_take] at hj
     split at hj
     ·rw [List.getElem?_drop] at hj
      rw [K9]
      have hq:∀ j v,us[j]? = some v→w.cell? ⟨b,j,none⟩=some v:=by
       intro j v hj
       rcases h5 with rfl|⟨ad,rfl,h6⟩
       ·have:=hJ h4;simp at this;subst this;simp at hj
       ·have hob:=hs.ob _ _ ho
        have hform:g.hdr o = .slice none 0 0∨∃ b cap,g.hdr o = .slice (some ⟨b,0,none⟩) xs'.length cap:=by
         cases fz with
         |false=>
          obtain⟨us,_,k1,_⟩:=hob
          rcases S4 k1 with ⟨k,_,_⟩|⟨b,cap,cur,k,_⟩
          ·exact .inl k
          ·exact .inr ⟨b,cap,k⟩
         |true=>
          rcases hob with ⟨k,_⟩|⟨b,cap,k,_⟩
          ·exact .inl k
          ·exact .inr ⟨b,cap,k⟩
        rcases hform with k|⟨b',cap',k⟩
        ·rw [h1] at k;cases k
        ·rw [k] at hb h1
         simp only [Value.ownBlock,B1] at hb
         subst hb
         have:ad=⟨b',0,none⟩:=by simpa using (by injection h1 with h1;exact h1.symm:some ad=some _)
         subst this
         have:=h6 j v hj
         rwa [K9,C5] at this
      exact hq _ _ hj
     ·cases hj
  ·cases hl
 ·cases hl
end
end Go.AE
namespace Go.AE
open Go.RowKit
theorem PD {w w':World}{base e sz n:Nat}{v:Value}{us:List Value}(hb:∀ b,v.ownBlock=some b→w'.heap[b]? = w.heap[b]?)(h:w.ownsRow base e sz v n us):w'.ownsRow base e sz v n us:=by
 obtain⟨hl,h⟩:=h
 refine⟨hl,?_⟩
 rcases h with h|⟨b,cap,cur,h1,h2,h3,r⟩
 ·exact .inl h
 ·exact .inr ⟨b,cap,cur,h1,h2,by rw [hb b (by rw [h1];rfl)];exact h3,r⟩
theorem iZ {w:World}{b:Nat}{x:Obj}(h:w.heap[b]? = some x):b<w.heap.size:=(Array.getElem?_eq_some_iff.1 h).1
section
variable {u:Nat→Option Obj} {p q:Nat→Prop} {g g':G} {h h':Nat→Option Ob} {w w':World}
theorem UL {o:Nat}{x:Ob}{b:Nat}(hob:OB g o x w)(hb:jY g o x=some b):b<w.heap.size:=by
 match x with
 | .var cs=>
  obtain⟨c,e,h1,_⟩:=hob
  simp only [jY,B1] at hb
  subst hb
  exact iZ h1
 | .row e sz xs false=>
  obtain⟨us,_,ho,_⟩:=hob
  rcases S4 ho with ⟨h1,_⟩|⟨b',cap,cur,h1,h3,_⟩
  ·simp only [jY,h1,Value.ownBlock] at hb;cases hb
  ·simp only [jY,h1,Value.ownBlock,B1] at hb
   subst hb
   exact iZ h3
 | .row e sz xs true=>simp [jY] at hb
 | .mp kt xs=>
  obtain⟨es,clock,h1,_⟩:=hob
  simp only [jY,B1] at hb
  subst hb
  exact iZ h1
 | .it t mo xs=>
  obtain⟨n,ns,_,h1⟩:=hob
  simp only [jY,B1] at hb
  subst hb
  exact iZ h1
theorem OB.keep {o:Nat}{x:Ob}(hob:OB g o x w)(ha:L8 p g g')(hp:p o)(hx:x.T0 p)(hb:∀ b,jY g o x=some b→w'.heap[b]? = w.heap[b]?):OB g' o x w':=by
 match x with
 | .var cs=>
  obtain⟨c,e,h1,h2,h3⟩:=hob
  refine⟨c,e,?_,h2.mono fun c hc b=>VA.agree ha (hx c hc),h3⟩
  rw [ha.blk o hp,hb _ rfl];exact h1
 | .row e sz xs false=>
  obtain⟨us,h0,h1,h2⟩:=hob
  refine⟨us,h0,?_,KH ha.h _ _ _ h2⟩
  rw [ha.hdr o hp]
  exact PD (fun b k=>hb b k) h1
 | .row e sz xs true=>
  have e1:=ha.hdr o hp
  rcases hob with ⟨h1,h2⟩|⟨b,cap,h1,h2,h3,h4⟩
  ·exact .inl ⟨by rw [e1];exact h1,h2⟩
  ·exact .inr ⟨b,cap,by rw [e1];exact h1,h2,h3,CR ha.h _ _ _ h4⟩
 | .mp kt xs=>
  obtain⟨es,clock,h1,h2,h3⟩:=hob
  exact⟨es,clock,by rw [ha.blk o hp,hb _ rfl];exact h1,h2.mono fun c _ b k=>⟨jU ha.h _ _ k.1,jU ha.h _ _ k.2.1,k.2.2⟩,h3⟩
 | .it t mo xs=>
  obtain⟨n,ns,h0,h1⟩:=hob
  exact⟨n,ns,h0,by rw [ha.blk o hp,ha.blk mo hx,hb _ rfl];exact h1⟩
theorem fN {o:Nat}{x:Ob}(ha:L8 p g g')(hp:p o):jY g' o x=jY g o x:=by
 match x with
 | .var cs=>simp only [jY,ha.blk o hp]
 | .row e sz xs false=>simp only [jY,ha.hdr o hp]
 | .row e sz xs true=>rfl
 | .mp kt xs=>simp only [jY,ha.blk o hp]
 | .it t mo xs=>simp only [jY,ha.blk o hp]
theorem P3.Kg (hs:P3 u p g h w){b:Nat}(hb:w.heap.size≤b):g.h b=none∧u b=none:=by
 constructor
 ·cases e:g.h b with
  |none=>rfl
  |some x=>have:=iZ (hs.frz b x e);omega
 ·cases e:u b with
  |none=>rfl
  |some x=>have:=iZ (hs.unt b x e);omega
theorem P3.update (hs:P3 u p g h w)(ha:L8 p g g')(hgh:g'.h=g.h)(row:Option Nat)
  (hw:∀ k,k<w.heap.size→some k≠row→w'.heap[k]? = w.heap[k]?)
  (hrow:∀ b,row=some b→g.h b=none∧u b=none) (hpq:∀ x,p x→q x) (o:Nat)
  (hoth:∀ o' x,h' o'=some x→o'≠o→h o'=some x∧∀ b,jY g o' x=some b→some b≠row)
  (ho:∀ x,h' o=some x→OB g' o x w'∧(∀ b,jY g' o x=some b→some b=row∨w.heap.size≤b)∧q o∧x.T0 q):P3 u q g' h' w':=by
 have keepb:∀ o' x,h' o'=some x→o'≠o→∀ b,jY g o' x=some b→w'.heap[b]? = w.heap[b]?:=by
  intro o' x hx hne b hb
  obtain⟨h1,h2⟩:=hoth o' x hx hne
  exact hw b (UL (hs.ob _ _ h1) hb) (h2 b hb)
 have hnew:∀ b,(some b=row∨w.heap.size≤b)→g.h b=none∧u b=none:=by
  intro b hb
  rcases hb with hb|hb
  ·exact hrow b hb.symm
  ·exact hs.Kg hb
 refine⟨?_,?_,?_,?_,?_,?_,fun b=>by rw [hgh];exact hs.dj b⟩
 ·intro b x hx
  rw [hgh] at hx
  have h1:=hs.frz b x hx
  rw [hw b (iZ h1) ?_]
  ·exact h1
  ·intro e
   have:=(hrow b e.symm).1
   rw [hx] at this;cases this
 ·intro b x hx
  have h1:=hs.unt b x hx
  rw [hw b (iZ h1) ?_]
  ·exact h1
  ·intro e
   have:=(hrow b e.symm).2
   rw [hx] at this;cases this
 ·intro o' x hx
  by_cases e:o'=o
  ·subst e;exact (ho x hx).1
  ·obtain⟨h1,_⟩:=hoth o' x hx e
   exact (hs.ob _ _ h1).keep ha (hs.use _ _ h1).1 (hs.use _ _ h1).2 (keepb o' x hx e)
 ·intro o' x b hx hb
  rw [hgh]
  by_cases e:o'=o
  ·subst e;exact hnew b ((ho x hx).2.1 b hb)
  ·obtain⟨h1,_⟩:=hoth o' x hx e
   rw [fN ha (hs.use _ _ h1).1] at hb
   exact hs.sep o' x b h1 hb
 ·intro o1 o2 x1 x2 b h1 h2 b1 b2
  by_cases e1:o1=o<;>by_cases e2:o2=o
  ·rw [e1,e2]
  ·subst e1
   obtain⟨k1,k2⟩:=hoth o2 x2 h2 e2
   rw [fN ha (hs.use _ _ k1).1] at b2
   rcases (ho x1 h1).2.1 b b1 with r|r
   ·exact absurd r (k2 b b2)
   ·have:=UL (hs.ob _ _ k1) b2;omega
  ·subst e2
   obtain⟨k1,k2⟩:=hoth o1 x1 h1 e1
   rw [fN ha (hs.use _ _ k1).1] at b1
   rcases (ho x2 h2).2.1 b b2 with r|r
   ·exact absurd r (k2 b b1)
   ·have:=UL (hs.ob _ _ k1) b1;omega
  ·obtain⟨k1,_⟩:=hoth o1 x1 h1 e1
   obtain⟨k2,_⟩:=hoth o2 x2 h2 e2
   rw [fN ha (hs.use _ _ k1).1] at b1
   rw [fN ha (hs.use _ _ k2).1] at b2
   exact hs.inj o1 o2 x1 x2 b k1 k2 b1 b2
 ·intro o' x hx
  by_cases e:o'=o
  ·subst e;exact (ho x hx).2.2
  ·obtain⟨h1,_⟩:=hoth o' x hx e
   exact⟨hpq _ (hs.use _ _ h1).1,(hs.use _ _ h1).2.mono hpq⟩
theorem P3.Rj (hs:P3 u p g h w)(hh:∀ o x,h' o=some x→h o=some x):P3 u p g h' w:=
 ⟨hs.frz,hs.unt,fun o x e=>hs.ob o x (hh o x e),fun o x b e=>hs.sep o x b (hh o x e),fun o o' x x' b e e'=>hs.inj o o' x x' b (hh o x e) (hh o' x' e'),fun o x e=>hs.use o x (hh o x e),hs.dj⟩
theorem P3.more (hs:P3 u p g h w)(hpq:∀ x,p x→q x):P3 u q g h w:=
 ⟨hs.frz,hs.unt,hs.ob,hs.sep,hs.inj,fun o x e=>⟨hpq _ (hs.use o x e).1,(hs.use o x e).2.mono hpq⟩,hs.dj⟩
theorem P3.same (hs:P3 u p g h w)(e:w'.heap=w.heap):P3 u p g h w':=
 ⟨fun b x k=>by rw [e];exact hs.frz b x k,fun b x k=>by rw [e];exact hs.unt b x k,
  fun o x k=>(hs.ob o x k).keep (L8.refl p g) (hs.use _ _ k).1 (hs.use _ _ k).2 fun b _=>by rw [e],hs.sep,hs.inj,hs.use,hs.dj⟩
def oV:Option Ob→Option Ob
 |some (.row e sz xs _)=>some (.row e sz xs true)
 |ob=>ob
theorem MF (x:Option Ob):oV (oV x)=oV x:=by
 match x with
 |none=>rfl
 |some (.var _)=>rfl
 |some (.row ..)=>rfl
 |some (.mp ..)=>rfl
 |some (.it ..)=>rfl
theorem qU:∀ (os:List Nat) (h:Nat→Option Ob) (x:Nat),V4 h os x=h x∨V4 h os x=oV (h x)
 |[],h,x=> .inl rfl
 |o::os,h,x=>by
  simp only [V4]
  cases e:Nat.beq x o with
  |true=>
   have e:x=o:=B0 e
   subst e
   right
   simp only [cond_true]
   match h x with
   |none=>rfl
   |some (.var _)=>rfl
   |some (.row ..)=>rfl
   |some (.mp ..)=>rfl
   |some (.it ..)=>rfl
  |false=>simpa using qU os h x
theorem uF (h:Nat→Option Ob)(o:Nat)(os:List Nat)(x:Nat):V4 h (o::os) x=if x=o then oV (V4 h os o) else V4 h os x:=by
 simp only [V4]
 by_cases e:x=o
 ·subst e
  simp only [Nat.beq_refl,cond_true,if_true]
  have:oV (V4 h os x)=oV (h x):=by
   rcases qU os h x with k|k
   ·rw [k]
   ·rw [k,MF]
  rw [this]
  match h x with
  |none=>rfl
  |some (.var _)=>rfl
  |some (.row ..)=>rfl
  |some (.mp ..)=>rfl
  |some (.it ..)=>rfl
 ·have:Nat.beq x o=false:=by
   cases k:Nat.beq x o with
   |false=>rfl
   |true=>exact absurd (B0 k) e
  simp [this,e]
theorem xI:∀ (os:List Nat) (h:Nat→Option Ob) (o:Nat),o∈os→V4 h os o=oV (h o)
 |o'::os,h,o,hm=>by
  rw [uF]
  by_cases e:o=o'
  ·subst e
   rw [if_pos rfl]
   rcases qU os h o with k|k
   ·rw [k]
   ·rw [k,MF]
  ·rw [if_neg e]
   exact xI os h o (by simpa [e] using hm)
theorem oU:∀ (os:List Nat) (h:Nat→Option Ob) (o:Nat),o∉os→V4 h os o=h o
 |[],_,_,_=>rfl
 |o'::os,h,o,hm=>by
  rw [uF,if_neg (by intro e;subst e;simp at hm)]
  exact oU os h o (by intro k;exact hm (by simp [k]))
theorem P3.Pc (hs:P3 u p g h w)(o:Nat):∃ g':G,L8 p g g'∧g'.blk=g.blk∧g'.hdr=g.hdr∧P3 u p g' (fun x=>if x=o then oV (h o) else h x) w:=by
 by_cases hu:∃ e sz xs,h o=some (.row e sz xs false)
 ·obtain⟨e,sz,xs,ho⟩:=hu
  have hob:=hs.ob _ _ ho
  obtain⟨us,hsz,h1,h2⟩:=hob
  have hbk:jY g o (.row e sz xs false)=(g.hdr o).ownBlock:=rfl
  let gh:Nat→Option Obj:=fun b=>if some b=(g.hdr o).ownBlock then w.heap[b]? else g.h b
  have hsub:∀ b x,g.h b=some x→gh b=some x:=by
   intro b x k
   simp only [gh]
   split
   ·rename_i e;exact hs.frz b x k
   ·exact k
  have ha:L8 p g ⟨gh,g.blk,g.hdr⟩:=⟨hsub,fun _ _=>rfl,fun _ _=>rfl⟩
  refine⟨⟨gh,g.blk,g.hdr⟩,ha,rfl,rfl,?_⟩
  have old:∀ o' x,(if o'=o then oV (h o) else h o')=some x→(o'≠o∧h o'=some x)∨(o'=o∧x = .row e sz xs true):=by
   intro o' x k
   by_cases e':o'=o
   ·rw [if_pos e',ho] at k
    simp only [oV,B1] at k
    exact .inr ⟨e',k.symm⟩
   ·rw [if_neg e'] at k;exact .inl ⟨e',k⟩
  refine⟨?_,hs.unt,?_,?_,?_,?_,?_⟩
  ·intro b x k
   simp only [gh] at k
   split at k
   ·exact k
   ·exact hs.frz b x k
  ·intro o' x k
   rcases old o' x k with ⟨_,k⟩|⟨rfl,rfl⟩
   ·exact (hs.ob _ _ k).keep ha (hs.use _ _ k).1 (hs.use _ _ k).2 fun _ _=>rfl
   ·rcases S4 h1 with ⟨k1,k2,_⟩|⟨b,cap,cur,k1,k3,k4,k5,k6,k7,_⟩
    ·exact .inl ⟨k1,D1 k2⟩
    ·refine .inr ⟨b,cap,k1,k4,k5,oI hsub h2 fun j v hj=>?_⟩
     have hg:gh b=some (.cells cur e (0,0)):=by
      simp only [gh,k1,Value.ownBlock,if_true];exact k3
     rw [K9,C5]
     simp only [kH,hg]
     have:=HA k3 k7 j v hj
     rw [K9,C5,cell_of_row w b j cur e (0,0) k3] at this
     simpa using this
  ·intro o' x b k hb
   rcases old o' x k with ⟨hne,k⟩|⟨rfl,rfl⟩
   ·rw [fN ha (hs.use _ _ k).1] at hb
    obtain⟨s1,s2⟩:=hs.sep o' x b k hb
    refine⟨?_,s2⟩
    simp only [gh]
    rw [if_neg]
    ·exact s1
    ·intro e'
     exact hne (hs.inj o' o x _ b k ho hb (by rw [hbk,← e']))
   ·simp [jY] at hb
  ·intro o1 o2 x1 x2 b k1 k2 b1 b2
   rcases old o1 x1 k1 with ⟨_,k1⟩|⟨rfl,rfl⟩
   ·rcases old o2 x2 k2 with ⟨_,k2⟩|⟨rfl,rfl⟩
    ·rw [fN ha (hs.use _ _ k1).1] at b1
     rw [fN ha (hs.use _ _ k2).1] at b2
     exact hs.inj o1 o2 x1 x2 b k1 k2 b1 b2
    ·simp [jY] at b2
   ·simp [jY] at b1
  ·intro o' x k
   rcases old o' x k with ⟨_,k⟩|⟨rfl,rfl⟩
   ·exact hs.use _ _ k
   ·exact⟨(hs.use _ _ ho).1,trivial⟩
  ·intro b
   simp only [gh]
   split
   ·rename_i e'
    exact .inr (hs.sep o _ b ho (by rw [hbk,← e'])).2
   ·exact hs.dj b
 ·refine⟨g,L8.refl p g,rfl,rfl,hs.Rj fun o' x k=>?_⟩
  by_cases e':o'=o
  ·subst e'
   rw [if_pos rfl] at k
   match hx:h o',k with
   |some (.var cs),k=>simpa [hx,oV] using k
   |some (.mp kt xs),k=>simpa [hx,oV] using k
   |some (.it t mo xs),k=>simpa [hx,oV] using k
   |some (.row e sz xs true),k=>simpa [hx,oV] using k
   |some (.row e sz xs false),_=>exact absurd ⟨e,sz,xs,hx⟩ hu
   |none,k=>simp [hx,oV] at k
  ·rwa [if_neg e'] at k
theorem P3.freeze (hs:P3 u p g h w):∀ os:List Nat,∃ g':G,L8 p g g'∧g'.blk=g.blk∧g'.hdr=g.hdr∧P3 u p g' (V4 h os) w
 |[]=>⟨g,L8.refl p g,rfl,rfl,hs⟩
 |o::os=>by
  obtain⟨g1,a1,b1,c1,s1⟩:=hs.freeze os
  obtain⟨g2,a2,b2,c2,s2⟩:=s1.Pc o
  refine⟨g2,⟨fun b x k=>a2.h b x (a1.h b x k),fun o _=>by rw [b2,b1],fun o _=>by rw [c2,c1]⟩,by rw [b2,b1],by rw [c2,c1],?_⟩
  have:V4 h (o::os)=fun x=>if x=o then oV (V4 h os o) else V4 h os x:=funext (uF h o os)
  rw [this];exact s2
theorem Gh {o e sz:Nat}{xs:List D}(hob:OB g o (.row e sz xs true) w):VD g.h (.Z sz xs) (g.hdr o):=by
 rcases hob with ⟨h1,h2⟩|⟨b,cap,h1,h2,h3,h4⟩
 ·subst h2;rw [h1];exact⟨none,0,rfl,B9 _,C4 _,.inl rfl⟩
 ·exact⟨_,cap,h1,h2,h3,.inr ⟨_,rfl,h4⟩⟩
theorem Aw {o e sz lo n:Nat}{xs:List D}(hob:OB g o (.row e sz xs true) w){v:Value}(hv:VL g (.sub o sz lo n) v):VD g.h (.Z sz ((xs.drop lo).take n)) v:=by
 obtain⟨hl,A,cap,rfl,hn,hc,hA⟩:=hv
 rw [sC hob] at hl
 have hlen:((xs.drop lo).take n).length=n:=by simp;omega
 refine⟨A,cap,by rw [hlen],by omega,hc,?_⟩
 rcases hA with rfl|⟨b,hb,rfl⟩
 ·left;simp
 ·right
  refine⟨_,rfl,?_⟩
  rcases hob with ⟨h1,h2⟩|⟨b',cap',h1,_,_,h4⟩
  ·rw [h1] at hb;simp [Value.ownBlock] at hb
  ·rw [h1] at hb
   simp only [Value.ownBlock,B1] at hb
   subst hb
   obtain⟨us,k1,k2⟩:=tD h4
   refine oI (fun _ _ h=>h) (qK n (tC lo k1)) fun j v hj=>?_
   rw [List.getElem?_take] at hj
   split at hj
   ·rw [List.getElem?_drop] at hj
    have:=k2 _ v hj
    rw [K9] at this ⊢
    simpa using this
   ·cases hj
theorem IM {x:V}{v:Value}{d:D}{fz os:List Nat}(hv:VA g x v)(hx:x.V7 p)(hd:RB h x=some (d,fz))(hfz:∀ o∈fz,o∈os)
  (ha:L8 p g g') (hs:P3 u p g' (V4 h os) w):VD g'.h d v:=by
 unfold RB at hd
 split at hd
 ·simp only [B1,C7] at hd
  obtain⟨rfl,rfl⟩:=hd
  exact jU ha.h _ _ hv
 ·split at hd
  ·rename_i o _ e sz xs fzz ho
   simp only [B1,C7] at hd
   obtain⟨rfl,rfl⟩:=hd
   have k:V4 h os o=some (.row e sz xs true):=by rw [xI os h o (hfz o (by simp)),ho];rfl
   have hv:v=g.hdr o:=hv.1
   subst hv
   rw [← ha.hdr o hx]
   exact Gh (hs.ob _ _ k)
  ·cases hd
 ·split at hd
  ·rename_i o z lo n _ e sz xs fzz ho
   cases hz:Nat.beq z sz with
   |false=>rw [hz] at hd;cases hd
   |true=>
    rw [hz] at hd
    simp only [cond_true,B1,C7] at hd
    obtain⟨rfl,rfl⟩:=hd
    have hz:z=sz:=B0 hz
    subst hz
    have k:V4 h os o=some (.row e z xs true):=by rw [xI os h o (hfz o (by simp)),ho];rfl
    exact Aw (hs.ob _ _ k) (VL.agree (x:= .sub o z lo n) ha hx hv)
  ·cases hd
 ·simp only [B1,C7] at hd
  obtain⟨rfl,rfl⟩:=hd
  exact hv
 ·cases hd
theorem AP {os:List Nat}(ha:L8 p g g')(hs:P3 u p g' (V4 h os) w):∀ {xs:List V} {vs:List Value} {ds:List D} {fz:List Nat},
  F2 (VL g) xs vs→(∀ x∈xs,x.lX p)→DY h xs=some (ds,fz)→(∀ o∈fz,o∈os)→vW g'.h ds vs
 |[],_,ds,fz,hv,_,hd,_=>by
  cases hv
  simp only [DY,B1,C7] at hd
  obtain⟨rfl,rfl⟩:=hd
  rfl
 |x::xs,_,ds,fz,hv,hx,hd,hfz=>by
  cases hv with
  |cons h1 h2=>
   simp only [DY] at hd
   split at hd
   ·rename_i d a ds' b e1 e2
    simp only [B1,C7] at hd
    obtain⟨rfl,rfl⟩:=hd
    have hxa:x.V7 p:=by
     have:=hx x (by simp)
     match x,this with
     | .agg _,_=>exact h1.elim
     | .fn _ [],_=>intro v hv;cases hv
     | .fn _ (_::_),_=>exact h1.elim
     | .tup _,_=>exact h1.elim
     | .d _,_=>trivial
     | .ptr ..,k=>exact k
     | .mp _,k=>exact k
     | .el ..,_=>trivial
     | .rp ..,k=>exact k
     | .row _,k=>exact k
     | .sub ..,k=>exact k
    exact⟨_,_,rfl,IM (jF h1) hxa e1 (fun o ho=>hfz o (by simp [ho])) ha hs,AP ha hs h2 (fun y hy=>hx y (by simp [hy])) e2 (fun o ho=>hfz o (by simp [ho]))⟩
   ·cases hd
theorem iU {x:V}{v:Value}{d:D}{fz os:List Nat}(hv:VA g x v)(hx:x.V7 p)(hd:Qv h x=some (d,fz))(hfz:∀ o∈fz,o∈os)
  (ha:L8 p g g') (hs:P3 u p g' (V4 h os) w):VD g'.h d v:=by
 unfold Qv at hd
 split at hd
 ·split at hd
  ·rename_i e
   simp only [B1,C7] at hd
   obtain⟨rfl,rfl⟩:=hd
   obtain⟨us,rfl,k⟩:=hv
   exact⟨us,rfl,AP ha hs k hx e hfz⟩
  ·cases hd
 ·exact IM hv hx hd hfz ha hs
end
end Go.AE
namespace Go.AE
open Go.RowKit
def AZ (P:Program)(o:Oper)(a:Act)(w:World)(R:Value→World→Prop):Prop:=
 (∃ v w',(execOp a.eval o).run P w = .ok (.value v) w'∧R v w')∨
 (∃ w',(execOp a.eval o).run P w = .ok .skip w'∧R undef w')∨
 (∃ f args w1,(execOp a.eval o).run P w = .ok (.enter f args) w1∧Calls P f args w1 fun e w'=>∃ v,e = .returned v∧R v w')
theorem AZ.mono {P:Program}{o:Oper}{a:Act}{w:World}{R R':Value→World→Prop}(h:AZ P o a w R)(hr:∀ v w',R v w'→R' v w'):AZ P o a w R':=by
 rcases h with ⟨v,w',h1,h2⟩|⟨w',h1,h2⟩|⟨f,args,w1,h1,h2⟩
 ·exact .inl ⟨v,w',h1,hr _ _ h2⟩
 ·exact .inr (.inl ⟨w',h1,hr _ _ h2⟩)
 ·exact .inr (.inr ⟨f,args,w1,h1,h2.mono fun e w' ⟨v,he,hv⟩=>⟨v,he,hr _ _ hv⟩⟩)
theorem AZ.wp {P:Program}{o:Oper}{a:Act}{w:World}{R:Value→World→Prop}(h:AZ P o a w R){K:Act→World→Prop}{Q:Exit→Act→World→Prop}
  (hk:∀ v w',R v w'→K (a.put o.dst v) w'):o.wp P a w K Q:=by
 unfold Oper.wp
 rcases h with ⟨v,w',h1,h2⟩|⟨w',h1,h2⟩|⟨f,args,w1,h1,h2⟩
 ·rw [h1];exact hk v w' h2
 ·rw [h1];exact hk undef w' h2
 ·rw [h1]
  exact h2.mono fun e w' ⟨v,he,hv⟩=>by subst he;exact hk v w' hv
def Rc (u:Nat→Option Obj)(p q:Nat→Prop)(g:G)(st:St)(w:World)(vv:V)(st':St)(v:Value)(w':World):Prop:=
 ∃ g',P3 u q g' st'.h w'∧L8 p g g'∧Ext g w g' w'∧VV g' vv v∧vv.T0 q∧st'.t=st.t∧st'.m=st.m
theorem DF (h:Nat→Option Obj):∀ v:Value,VD h (LC v) v:=by
 intro v
 unfold LC
 split<;>first|rfl|trivial|exact⟨_,rfl,rfl⟩
theorem AI (h:Nat→Option Obj):∀ vs:List Value,vW h (vs.map LC) vs
 |[]=>rfl
 |v::vs=>⟨v,vs,rfl,DF h v,AI h vs⟩
theorem DE (h:Nat→Option Obj)(v:Value):VD h (SW v) v:=by
 unfold SW
 split
 ·exact⟨_,rfl,AI h _⟩
 ·exact DF h v
theorem nQ {v:V}{R:Type}{K:V→Option R}:force v K=K v:=by cases v<;>rfl
section
variable {u:Nat→Option Obj} {p q:Nat→Prop} {g:G} {st:St} {a:Act} {w:World} {P:Program} {o:Oper}
structure At (u:Nat→Option Obj) (p:Nat→Prop) (g:G) (st:St) (a:Act) (w:World):Prop where
 hp:P3 u p g st.h w
 tm:∀ t,VV g (st.t t) (a.tmps.getD t undef)
 nm:∀ t,(st.t t).T0 p
theorem At.ev (S:At u p g st a w)(x:Operand):VV g (K2 st x) (a.eval x):=by
 cases x with
 |tmp t=>exact S.tm t
 |const v=>exact DE _ v
 |global n=>exact (trivial:VD g.h .top _)
 |func f=>exact (rfl:Value.func (.func f) #[] #[]=_)
theorem At.Z7 (S:At u p g st a w)(x:Operand):(K2 st x).T0 p:=by
 cases x with
 |tmp t=>exact S.nm t
 |const v=>exact trivial
 |global n=>exact trivial
 |func f=>exact trivial
theorem AZ.val (S:At u p g st a w)(hpq:∀ x,p x→q x){v:Value}{vv:V}(hr:(execOp a.eval o).run P w = .ok (.value v) w)(hv:VV g vv v)(hu:vv.T0 p) :
  AZ P o a w fun v w'=>Rc u p q g st w vv st v w':=
 .inl ⟨v,w,hr,g,S.hp.more hpq,L8.refl p g,Ext.refl g w,hv,hu.mono hpq,rfl,rfl⟩
theorem CS {v:Value}{b:Bool}(h:VV g (.d (.bool b)) v):v = .bool b:=h
theorem sP {v:Value}{k:IntKind}{n:Int}(h:VV g (.d (.int k n)) v):v = .int k n:=h
theorem Dz (S:At u p g st a w)(hpq:∀ x,p x→q x){x:Operand}(ho:o.op = .move x∨o.op = .assign x) :
  AZ P o a w fun v w'=>Rc u p q g st w (K2 st x) st v w':=by
 refine AZ.val S hpq (v:=a.eval x) ?_ (S.ev x) (S.Z7 x)
 rcases ho with ho|ho<;>simp [execOp,ho]
theorem Qh (S:At u p g st a w)(hpq:∀ x,p x→q x){x y z:Operand}{b:Bool}(ho:o.op = .pick x y z)(hx:K2 st x = .d (.bool b)) :
  AZ P o a w fun v w'=>Rc u p q g st w (if b then K2 st y else K2 st z) st v w':=by
 have hb:=S.ev x
 rw [hx] at hb
 have hb:=CS hb
 refine AZ.val S hpq (v:=if b then a.eval y else a.eval z) ?_ ?_ ?_
 ·simp only [execOp,ho,hb,asBool]
  cases b<;>simp
 ·cases b
  ·exact S.ev z
  ·exact S.ev y
 ·cases b
  ·exact S.Z7 z
  ·exact S.Z7 y
theorem pB (S:At u p g st a w)(hpq:∀ x,p x→q x){x:Operand}(ho:o.op = .nilCheck x)
  (hx:(∃ q f,K2 st x = .ptr q f)∨(∃ sz xs i f,K2 st x = .el sz xs i f)∨(∃ q sz i f,K2 st x = .rp q sz i f)∨(∃ f,K2 st x = .d (.fn f))∨(∃ f cs,K2 st x = .fn f cs)) :
  AZ P o a w fun v w'=>Rc u p q g st w (K2 st x) st v w':=by
 refine AZ.val S hpq (v:=a.eval x) ?_ (S.ev x) (S.Z7 x)
 have hv:=S.ev x
 rcases hx with ⟨q',f,e⟩|⟨sz,xs,i,f,e⟩|⟨q',sz,i,f,e⟩|⟨f,e⟩|⟨f,cs,e⟩
 ·rw [e] at hv
  have hv:a.eval x = .pointer (some ⟨g.blk q',f,none⟩):=hv
  simp [execOp,ho,hv]
 ·rw [e] at hv
  obtain⟨ad,_,_,hv⟩:=hv
  simp [execOp,ho,hv]
 ·rw [e] at hv
  obtain⟨_,b,_,hv⟩:=hv
  simp [execOp,ho,hv]
 ·rw [e] at hv
  have hv:a.eval x = .func (.func f) #[] #[]:=hv
  simp [execOp,ho,hv]
 ·rw [e] at hv
  cases cs with
  |nil=>
   have hv:a.eval x = .func (.func f) #[] #[]:=hv
   simp [execOp,ho,hv]
  |cons c cs=>
   obtain⟨us,hv,_⟩:=hv
   simp [execOp,ho,hv]
theorem xA {op:BinOp}{t:TypeId}{x y:Operand}{k k':IntKind}{n m:Int}:(eqGuard op t x y (.int k n) (.int k' m)).run P w = .ok () w:=by
 cases op<;>rfl
theorem XE {op:BinOp}{t:TypeId}{x y:Operand}{b b':ByteArray}:(eqGuard op t x y (.string b) (.string b')).run P w = .ok () w:=by
 cases op<;>rfl
theorem DL {op:BinOp}{t:TypeId}{x y:Operand}{b b':Bool}:(eqGuard op t x y (.bool b) (.bool b')).run P w = .ok () w:=by
 cases op<;>rfl
theorem Bb {op:BinOp}{t:TypeId}{k:IntKind}{n m:Int}{R:Type}{K:D→Option R}{r:R}(h:II op k n m K=some r)(hs:op≠ .shl∧op≠ .shr) :
  ∃ z v,K z=some r∧(binOp op t (.int k n) (.int k m)).run P w = .ok v w∧VD g.h z v:=by
 cases op<;>simp only [II] at h
 case shl=>exact absurd rfl hs.1
 case shr=>exact absurd rfl hs.2
 case quo|rem=>
  cases e:decide (m=0) with
  |true=>rw [e] at h;cases h
  |false=>
   rw [e] at h
   have e:m≠0:=E7 e
   refine⟨_,_,h,?_,rfl⟩
   simp [binOp,Op.intDiv,e]
 all_goals first
  |(refine⟨_,_,h,?_,rfl⟩;simp [binOp,Op.intArith,Op.intBits,Op.intCmp];done)
  |exact absurd h (by simp)
theorem Cl {op:BinOp}{t:TypeId}{b b':ByteArray}{R:Type}{K:D→Option R}{r:R}(h:JA op b.data.toList b'.data.toList K=some r) :
  ∃ z v,K z=some r∧(binOp op t (.string b) (.string b')).run P w = .ok v w∧VD g.h z v:=by
 cases op<;>simp only [JA] at h
 case add=>
  cases e:decide (b.data.toList.length+b'.data.toList.length≤Bd) with
  |false=>rw [e] at h;cases h
  |true=>
   rw [e] at h
   have e:=E5 e
   simp only [Bd,E2] at e
   refine⟨_,.string (b++b'),h,?_,b++b',rfl,by simp⟩
   have hb:b.size+b'.size≤9223372036854775807:=by simp only [ByteArray.size];omega
   simp only [binOp]
   exact run_string_add_sum w b b' hb
 all_goals first
  |(refine⟨_,_,h,?_,rfl⟩;simp [binOp,Op.stringOp,ByteArray.toList_eq];done)
  |exact absurd h (by simp)
theorem WO {op:BinOp}{t:TypeId}{b b':Bool}(ht:P.underlying t=some .bool) :
  (binOp .eql t (.bool b) (.bool b')).run P w = .ok (.bool (b==b')) w∧(binOp .neq t (.bool b) (.bool b')).run P w = .ok (.bool (!(b==b'))) w:=
 ⟨run_eql_bool w t b b' ht,run_neq_bool w t b b' ht⟩
end
end Go.AE
namespace Go.AE
open Go.RowKit
section
variable {u:Nat→Option Obj} {p q:Nat→Prop} {g:G} {st:St} {a:Act} {w:World} {P:Program} {o:Oper}
theorem uU {t:TypeId}{d:TypeDesc}(h:P.underlying t=some d):(isAgg t).run P w = .ok (dY d) w:=by
 simp only [isAgg,Sem.run_bind,run_underlying h,Result.andThen_ok]
 cases d<;>rfl
theorem fY {t:TypeId}{i:TypeInfo}(h:P.info? t=some i):(sizeOf t).run P w = .ok i.size w:=by
 simp [sizeOf,typeInfo,h]
theorem gS {t:TypeId}(h:CD P t=true):∃ d i,P.underlying t=some d∧P.info? t=some i∧P4 P t=dY d∧L6 P t=i.size:=by
 unfold CD at h
 cases hd:P.underlying t with
 |none=>simp [hd] at h
 |some d=>
  cases hi:P.info? t with
  |none=>simp [hi] at h
  |some i=>exact⟨d,i,rfl,rfl,by simp [P4,hd],by simp [L6,hi]⟩
theorem lB {t:TypeId}{d:TypeDesc}{i:TypeInfo}(hd:P.underlying t=some d)(hi:P.info? t=some i)(hg:dY d=true){ad:Addr}{us:List Value}(hl:us.length=i.size)
  (hc:∀ j v,us[j]? = some v→w.cell? (ad.add j)=some v):(loadVar t ad).run P w = .ok (.agg us.toArray) w:=by
 simp only [loadVar,Sem.run_bind,uU hd,hg,Result.andThen_ok,if_true,fY hi]
 rw [← hl,run_loadCells_list w ad us hc]
 rfl
theorem lC {t:TypeId}{d:TypeDesc}(hd:P.underlying t=some d)(hg:dY d=false){ad:Addr}{v:Value}
  (hc:w.cell? ad=some v):(loadVar t ad).run P w = .ok v w:=by
 simp only [loadVar,Sem.run_bind,uU hd,hg,Result.andThen_ok,D6,if_false]
 simp [hc]
theorem Ab {x:V}{v:Value}(h:VA g x v):VL g (mO x) v:=by
 match x with
 | .agg _=>exact (trivial:VD g.h .top _)
 | .fn f []=>exact h
 | .fn f (_::_)=>exact (trivial:VD g.h .top _)
 | .tup _=>exact (trivial:VD g.h .top _)
 | .d x=>exact h
 | .ptr o off=>exact h
 | .el sz xs i off=>exact h
 | .rp o sz i off=>exact h
 | .row o=>exact h
 | .mp o=>exact h
 | .bp ..=>exact (trivial:VD g.h .top _)
 | .sub o sz lo n=>exact h
theorem VR {x:V}(h:x.V7 p):(mO x).lX p:=by
 match x with
 | .agg _=>trivial
 | .fn f []=>trivial
 | .fn f (_::_)=>trivial
 | .tup _=>trivial
 | .d x=>trivial
 | .ptr o off=>exact h
 | .el sz xs i off=>trivial
 | .rp o sz i off=>exact h
 | .row o=>exact h
 | .mp o=>exact h
 | .bp ..=>trivial
 | .sub o sz lo n=>exact h
theorem Dc:∀ {cs:List V} {us:List Value} {xs:List D},F2 (VA g) cs us→SI cs=some xs→vW g.h xs us
 |[],_,xs,h,e=>by
  cases h
  simp only [SI,B1] at e
  subst e;rfl
 |c::cs,_,xs,h,e=>by
  cases h with
  |cons h1 h2=>
   simp only [SI] at e
   split at e
   ·rename_i x xs' e1
    simp only [B1] at e
    subst e
    exact⟨_,_,rfl,h1,Dc h2 e1⟩
   ·cases e
theorem tN {cs:List V}{us:List Value}(h:F2 (VA g) cs us):VA g (gN cs) (.agg us.toArray):=by
 unfold gN
 split
 ·rename_i xs e
  exact⟨us.toArray,rfl,by simpa using Dc h e⟩
 ·refine⟨us.toArray,rfl,?_⟩
  simp only []
  exact F2.ED (h.mono fun c _ b hc=>Ab hc)
theorem nV {cs:List V}(h:∀ c∈cs,c.V7 p):(gN cs).V7 p:=by
 unfold gN
 split
 ·trivial
 ·intro v hv
  obtain⟨c,hc,rfl⟩:=List.mem_map.1 hv
  exact VR (h c hc)
theorem cM {x:V}(h:x.V7 p):x.T0 p:=by
 match x with
 | .tup _=>exact h.elim
 | .agg _=>exact h
 | .fn _ _=>exact h
 | .d x=>trivial
 | .ptr o off=>exact h
 | .el sz xs i off=>trivial
 | .rp o sz i off=>exact h
 | .row o=>exact h
 | .mp o=>exact h
 | .bp ..=>exact h
 | .sub o sz lo n=>exact h
theorem NC {t:pI}{x:D}(h:aT t x=true){hh:Nat→Option Obj}{v:Value}(hv:VD hh x v):VD hh (JV t x) v:=by
 match t,x,h,hv with
 | .any,_,_,hv=>exact hv
 | .bool,.bool _,_,hv=>exact hv
 | .int k,.int k' _,h,hv=>
  have:k=k':=by simpa [aT] using h
  subst this;exact hv
 | .str,.str _,_,hv=>exact hv
 | .Z sz,.Z sz' _,h,hv=>
  have:sz=sz':=B0 h
  subst this;exact hv
 | .Z sz,.nils _ _,_,hv=>
  have hv:v = .slice none 0 0:=hv
  subst hv
  exact⟨none,0,rfl,B9 _,C4 _,.inl rfl⟩
theorem uP {hh:Nat→Option Obj}:∀ {ts:List pI} {cs:List D} {us:List Value} {x:D} {j:Nat},S3 ts cs=true→vW hh cs us→(∀ i,cs[i]? = x.cells[j+i]?)→vW hh (qG ts x j) us
 |[],[],us,_,_,_,hv,_=>hv
 |t::ts,c::cs,us,x,j,h,hv,hx=>by
  simp only [S3,A9] at h
  obtain⟨v,r,rfl,h1,h2⟩:=hv
  have hc:x.at_ j=c:=by
   have:=hx 0
   simp at this
   simp [D.at_,← this]
  exact⟨v,r,rfl,by rw [hc];exact NC h.1 h1,uP h.2 h2 fun i=>by have:=hx (i+1);simp at this;rw [this];congr 1;omega⟩
 |[],_::_,_,_,_,h,_,_=>by simp [S3] at h
 |_::_,[],_,_,_,h,_,_=>by simp [S3] at h
theorem pA {t:Ty}{x:D}(h:K0 t x=true){hh:Nat→Option Obj}{v:Value}(hv:VD hh x v):VD hh (H7 t x) v:=by
 match t,x,h,hv with
 | .leaf t,x,h,hv=>exact NC h hv
 | .agg ts,.agg cs,h,hv=>
  obtain⟨us,rfl,h1⟩:=hv
  exact⟨us,rfl,uP (x:= .agg cs) (j:=0) h h1 fun i=>by simp [D.cells]⟩
 | .ifc t ts,.iface t' (.agg cs),h,hv=>
  simp only [K0,A9] at h
  have e:t=t':=B0 h.1
  subst e
  obtain⟨v',rfl,us,rfl,h1⟩:=hv
  exact⟨_,rfl,us,rfl,uP (x:= .agg cs) (j:=0) h.2 h1 fun i=>by simp [D.cells]⟩
theorem Kx {t:pI}{x:D}(h:aT t x=true)(ht:t≠ .any){hh:Nat→Option Obj}{v:Value}(hv:VD hh x v):v.oneCell'=true:=by
 match t,x,h,hv with
 | .any,_,_,_=>exact absurd rfl ht
 | .bool,.bool _,_,hv=>have hv:v=_:=hv;subst hv;rfl
 | .int k,.int k' _,h,hv=>have hv:v=_:=hv;subst hv;rfl
 | .str,.str _,_,hv=>obtain⟨b,rfl,_⟩:=hv;rfl
 | .Z sz,.Z sz' _,h,hv=>obtain⟨A,cap,rfl,_⟩:=hv;rfl
 | .Z sz,.nils _ _,_,hv=>have hv:v=_:=hv;subst hv;rfl
theorem VQ {t:TypeId}(h:P4 P t=true):zW P t = .agg (DZ P 8 t):=by simp [zW,h]
theorem ZI {t:TypeId}(h:P4 P t=false):zW P t = .leaf (eX P t):=by simp [zW,h]
def jT (w:World)(ad:Addr)(us:List Value):Prop:=∀ j v,us[j]? = some v→w.cell? (ad.add j)=some v
theorem jT.sub {ad:Addr}{us:List Value}(h:jT w ad us)(n:Nat):jT w (ad.add n) (us.drop n):=fun j v hj=>by
 rw [cN]
 exact h _ v (by rw [← hj,List.getElem?_drop])
theorem jT.take {ad:Addr}{us:List Value}(h:jT w ad us)(n:Nat):jT w ad (us.take n):=fun j v hj=>by
 rw [List.getElem?_take] at hj
 split at hj
 ·exact h j v hj
 ·cases hj
theorem getD_some {α:Type}{xs:List α}{i:Nat}{d:α}(h:i<xs.length):xs[i]? = some (xs[i]?.getD d):=by
 rw [C2 h];rfl
theorem RD {t:TypeId}(ht:CD P t=true){hh:Nat→Option Obj}{sz:Nat}{xs:List D}{us:List Value}{ad:Addr}(hf:mY hh sz xs us)(hc:jT w ad us){i:Nat}(hi:i<xs.length)
  (hsz:L6 P t=sz) (hna:I5 (zW P t)=true) (hok:K0 (zW P t) (xs[i]?.getD .top)=true) :
  ∃ v,(loadVar t (ad.add (i*sz))).run P w = .ok v w∧VD hh (H7 (zW P t) (xs[i]?.getD .top)) v:=by
 obtain⟨d,info,hd,hinfo,hg,hs⟩:=gS ht
 obtain⟨v,h1,h2,h3,h4⟩:=SF hf (getD_some (d:=D.top) hi)
 refine⟨v,?_,pA hok h4⟩
 have hcell:∀ j u,v.cells.toList[j]? = some u→w.cell? ((ad.add (i*sz)).add j)=some u:=fun j u hj=>by
  rw [cN]
  exact hc _ u (h2 j u (by simpa using hj))
 cases hagg:dY d with
 |true=>
  rw [hagg] at hg
  rw [VQ hg] at hok
  have hx:∃ cs,xs[i]?.getD .top = .agg cs:=by
   cases hx:xs[i]?.getD D.top with
   |agg cs=>exact⟨cs,rfl⟩
   |_=>rw [hx] at hok;simp [K0] at hok
  obtain⟨cs,hx⟩:=hx
  rw [hx] at h4
  obtain⟨us',rfl,_⟩:=h4
  rw [lB hd hinfo hagg (us:=us'.toList) (by simp only [E2];rw [← hs,hsz];exact h1) hcell]
 |false=>
  rw [hagg] at hg
  rw [ZI hg] at hok hna
  have hone:v.oneCell'=true:=Kx hok (by intro e;rw [e] at hna;simp [I5] at hna) h4
  have:=hcell 0 v (by rw [yR hone];rfl)
  rw [show (ad.add (i*sz)).add 0=ad.add (i*sz) from by rw [cN,Nat.add_zero]] at this
  exact lC hd hagg this
theorem JS {hh:Nat→Option Obj}:∀ {xs:List D} {us:List Value} {j:Nat} {v:Value},vW hh xs us→us[j]? = some v→∃ x,xs[j]? = some x∧VD hh x v
 |[],_,j,v,h,hj=>by subst h;simp at hj
 |x::xs,_,j,v,h,hj=>by
  obtain⟨u,r,rfl,h1,h2⟩:=h
  cases j with
  |zero=>simp at hj;subst hj;exact⟨x,rfl,h1⟩
  |succ j=>simpa using JS h2 (by simpa using hj)
theorem KJ {hh:Nat→Option Obj}{xs:List D}{us:List Value}(h:vW hh xs us)(n:Nat):vW hh (xs.drop n) (us.drop n):=(jG _ _ _).2 (((jG _ _ _).1 h).drop n)
theorem KL {hh:Nat→Option Obj}{xs:List D}{us:List Value}(h:vW hh xs us)(n:Nat):vW hh (xs.take n) (us.take n):=(jG _ _ _).2 (((jG _ _ _).1 h).take n)
theorem BB {hh:Nat→Option Obj}{xs:List D}{us:List Value}(h:vW hh xs us):xs.length=us.length:=((jG _ _ _).1 h).length
theorem RE {t:TypeId}(ht:CD P t=true){hh:Nat→Option Obj}{sz:Nat}{xs:List D}{us:List Value}{ad:Addr}(hf:mY hh sz xs us)(hc:jT w ad us){i off:Nat}(hi:i<xs.length)
  (hoff:off+L6 P t≤sz) (hag:OQ (xs[i]?.getD .top)=true) (hna:I5 (zW P t)=true) (hok:K0 (zW P t) (YZ (xs[i]?.getD .top) off (L6 P t) (P4 P t))=true) :
  ∃ v,(loadVar t (ad.add (i*sz+off))).run P w = .ok v w∧VD hh (H7 (zW P t) (YZ (xs[i]?.getD .top) off (L6 P t) (P4 P t))) v:=by
 obtain⟨d,info,hd,hinfo,hg,hs⟩:=gS ht
 obtain⟨v,h1,h2,h3,h4⟩:=SF hf (getD_some (d:=D.top) hi)
 generalize hx:xs[i]?.getD D.top=x at *
 have hcell:∀ j u,v.cells.toList[j]? = some u→w.cell? ((ad.add (i*sz)).add j)=some u:=fun j u hj=>by
  rw [cN]
  exact hc _ u (h2 j u (by simpa using hj))
 have hcs:∃ us',v = .agg us'∧vW hh x.cells us'.toList:=by
  match x,h4,hag with
  | .agg cs,h4,_=>obtain⟨us',rfl,h5⟩:=h4;exact⟨us',rfl,h5⟩
 obtain⟨us',rfl,h5⟩:=hcs
 have hus:us'.size=sz:=h1
 rw [← cN]
 cases hagg:dY d with
 |true=>
  rw [hagg] at hg
  rw [hg] at hok ⊢
  rw [VQ hg] at hok ⊢
  simp only [YZ,cond_true] at hok ⊢
  have hlen:((us'.toList.drop off).take (L6 P t)).length=info.size:=by simp;omega
  refine⟨.agg ((us'.toList.drop off).take (L6 P t)).toArray,?_,pA (t:= .agg (DZ P 8 t)) hok ⟨_,rfl,by simpa using KL (KJ h5 off) _⟩⟩
  exact lB hd hinfo hagg hlen ((jT.sub (w:=w) (ad:=ad.add (i*sz)) hcell off).take _)
 |false=>
  rw [hagg] at hg
  rw [hg] at hok ⊢
  rw [ZI hg] at hok hna ⊢
  simp only [YZ,cond_false] at hok ⊢
  have hnany:eX P t≠ .any:=by intro e;rw [e] at hna;simp [I5] at hna
  have hlt:off<us'.toList.length:=by
   rcases Nat.lt_or_ge off us'.toList.length with hl|hl
   ·exact hl
   ·have hlc:x.cells.length≤off:=by rw [BB h5];exact hl
    have:x.at_ off = .top:=by simp [D.at_,List.getElem?_eq_none hlc]
    rw [this] at hok
    cases hT:eX P t<;>simp [K0,aT,hT] at hok hnany
  obtain⟨y,hy,hv⟩:=JS h5 (C2 hlt)
  have hat:x.at_ off=y:=by simp [D.at_,hy]
  rw [hat] at hok ⊢
  exact⟨_,lC hd hagg (hcell off _ (C2 hlt)),pA (t:= .leaf (eX P t)) hok hv⟩
end
end Go.AE
namespace Go.AE
open Go.RowKit
section
variable {u:Nat→Option Obj} {p q:Nat→Prop} {g:G} {st:St} {a:Act} {w:World} {P:Program} {o:Oper} {R:Type} {K:V→St→Option R} {r:R}
def Goal (u:Nat→Option Obj)(p q:Nat→Prop)(g:G)(st:St)(a:Act)(w:World)(P:Program)(o:Oper){R:Type}(K:V→St→Option R)(r:R):Prop:=
 ∃ vv st',K vv st'=some r∧AZ P o a w fun v w'=>Rc u p q g st w vv st' v w'
theorem Goal.val (S:At u p g st a w)(hpq:∀ x,p x→q x){v:Value}{vv:V}(hk:K vv st=some r)(hr:(execOp a.eval o).run P w = .ok (.value v) w)(hv:VV g vv v)(hu:vv.T0 p):Goal u p q g st a w P o K r:=
 ⟨vv,st,hk,AZ.val S hpq hr hv hu⟩
theorem H8 {α:Type}{c:Bool}{x:Option α}{r:α}(h:(bif c then x else none)=some r):c=true∧x=some r:=by
 cases c with
 |true=>exact⟨rfl,h⟩
 |false=>cases h
theorem K1 {α:Type}{c:Bool}{x:Option α}{r:α}(h:(bif c then none else x)=some r):c=false∧x=some r:=by
 cases c with
 |true=>cases h
 |false=>exact⟨rfl,h⟩
theorem FG {v:Value}{q' off:Nat}(h:VV g (.ptr q' off) v):v = .pointer (some ⟨g.blk q',off,none⟩):=h
theorem DN (hs:P3 u p g st.h w){ro e sz:Nat}{xs:List D}{fz:Bool}(ho:st.h ro=some (.row e sz xs fz)) :
  (g.hdr ro = .slice none 0 0∧xs=[])∨∃ b cap,g.hdr ro = .slice (some ⟨b,0,none⟩) xs.length cap∧xs.length≤cap∧cap≤maxLen:=by
 have hob:=hs.ob _ _ ho
 cases fz with
 |false=>
  obtain⟨us,_,k1,_⟩:=hob
  rcases S4 k1 with ⟨k,k2,_⟩|⟨b,cap,cur,k,_,k2,k3,_⟩
  ·exact .inl ⟨k,D1 k2⟩
  ·exact .inr ⟨b,cap,k,k2,k3⟩
 |true=>
  rcases hob with k|⟨b,cap,k,k2,k3,_⟩
  ·exact .inl k
  ·exact .inr ⟨b,cap,k,k2,k3⟩
theorem Qf (S:At u p g st a w)(hpq:∀ x,p x→q x){t:TypeId}{x:Operand}(ho:o.op = .load t x)(h:IP P t (K2 st x) st K=some r):Goal u p q g st a w P o K r:=by
 have hv:=S.ev x
 have hu:=S.Z7 x
 unfold IP at h
 simp only [] at h
 obtain⟨ht,h⟩:=K1 h
 have ht:CD P t=true:=by simpa using ht
 obtain⟨d,info,hd,hinfo,hg,hs⟩:=gS ht
 have exec:∀ (ad:Addr) (v:Value),a.eval x = .pointer (some ad)→(loadVar t ad).run P w = .ok v w→(execOp a.eval o).run P w = .ok (.value v) w:=by
  intro ad v e1 e2
  simp only [execOp,ho,Instr.loadAt,e1,Instr.sureAddr]
  simp [e2]
 match he:K2 st x with
 | .ptr q' off=>
  rw [he] at hv hu h
  have hv:=FG hv
  simp only [] at h
  split at h
  ·rename_i cs hcs
   obtain⟨c,e,hb,hF,h1⟩:=S.hp.ob _ _ hcs
   have hcell:jT w ⟨g.blk q',0,none⟩ c.toList:=fun j v hj=>by
    rw [K9,C5,cell_of_row w _ j c e (0,0) hb]
    simpa using hj
   cases hag:P4 P t with
   |true=>
    rw [hag] at h hg
    simp only [cond_true] at h
    obtain⟨hle,h⟩:=H8 h
    have hle:off+L6 P t≤cs.length:=B3 hle
    have hlen:=hF.length
    refine Goal.val S hpq h (exec _ _ hv (lB hd hinfo hg.symm (us:=(c.toList.drop off).take (L6 P t)) (by simp at hlen ⊢;omega) ?_)) (eF (tN ((hF.drop off).take _))) (cM (nV fun y hy=>?_))
    ·have:=(hcell.sub (w:=w) off).take (L6 P t)
     rwa [K9,C5] at this
    ·exact (S.hp.use _ _ hcs).2 y (List.mem_of_mem_drop (List.mem_of_mem_take hy))
   |false=>
    rw [hag] at h hg
    simp only [cond_false] at h
    split at h
    ·rename_i y hy
     rw [nQ] at h
     obtain⟨v,hv2,hvv⟩:=hF.get off y hy
     have:=hcell off v hv2
     rw [K9,C5] at this
     exact Goal.val S hpq h (exec _ _ hv (lC hd hg.symm this)) (eF hvv) (cM ((S.hp.use _ _ hcs).2 y (List.mem_of_getElem? hy)))
    ·cases h
  ·cases h
 | .el sz xs i off=>
  rw [he] at hv hu h
  obtain⟨ad,hr,hi,hv⟩:=hv
  obtain⟨us,hf,hc⟩:=tD hr
  have hc:jT w ad us:=fun j v hj=>qP S.hp.frz (hc j v hj)
  simp only [] at h
  cases hb:(Nat.beq off 0&&Nat.beq (L6 P t) sz) with
  |true=>
   rw [hb] at h
   simp only [cond_true,typed] at h
   obtain⟨hok,h⟩:=H8 h
   simp only [A9] at hok hb
   have h0:off=0:=B0 hb.1
   subst h0
   obtain⟨v,h1,h2⟩:=RD (P:=P) (w:=w) ht hf hc hi (B0 hb.2) hok.1 hok.2
   exact Goal.val S hpq h (exec _ _ hv h1) h2 trivial
  |false=>
   rw [hb] at h
   simp only [cond_false,typed] at h
   obtain⟨hle,h⟩:=H8 h
   obtain⟨hag,h⟩:=H8 h
   obtain⟨hok,h⟩:=H8 h
   simp only [A9] at hok
   obtain⟨v,h1,h2⟩:=RE (P:=P) (w:=w) ht hf hc hi (B3 hle) hag hok.1 hok.2
   exact Goal.val S hpq h (exec _ _ hv h1) h2 trivial
 | .rp q' sz i off=>
  rw [he] at hv hu h
  obtain⟨hi,b,hbk,hv⟩:=hv
  simp only [] at h
  split at h
  ·rename_i e sz' xs fz hrow
   replace h:=H8 h
   obtain⟨hsz0,h⟩:=h
   obtain rfl:sz=sz':=B0 hsz0
   clear hsz0
   obtain⟨us,hf,hc⟩:=RN S.hp hrow hbk
   have hc:jT w ⟨b,0,none⟩ us:=fun j v hj=>by rw [K9,C5];exact hc j v hj
   rw [sC (S.hp.ob _ _ hrow)] at hi
   cases hb:(Nat.beq off 0&&Nat.beq (L6 P t) sz) with
   |true=>
    rw [hb] at h
    simp only [cond_true,typed] at h
    obtain⟨hok,h⟩:=H8 h
    simp only [A9] at hok hb
    have h0:off=0:=B0 hb.1
    subst h0
    obtain⟨v,h1,h2⟩:=RD (P:=P) (w:=w) ht hf hc hi (B0 hb.2) hok.1 hok.2
    rw [K9,C5] at h1
    exact Goal.val S hpq h (exec _ _ hv h1) h2 trivial
   |false=>
    rw [hb] at h
    simp only [cond_false,typed] at h
    obtain⟨hle,h⟩:=H8 h
    obtain⟨hag,h⟩:=H8 h
    obtain⟨hok,h⟩:=H8 h
    simp only [A9] at hok
    obtain⟨v,h1,h2⟩:=RE (P:=P) (w:=w) ht hf hc hi (B3 hle) hag hok.1 hok.2
    rw [K9,C5] at h1
    exact Goal.val S hpq h (exec _ _ hv h1) h2 trivial
  ·cases h
 | .d _=>rw [he] at h;cases h
 | .row _=>rw [he] at h;cases h
 | .sub ..=>rw [he] at h;cases h
 | .agg _=>rw [he] at h;cases h
 | .fn ..=>rw [he] at h;cases h
 | .tup _=>rw [he] at h;cases h
 | .mp _=>rw [he] at h;cases h
 | .bp ..=>rw [he] at h;cases h
theorem Tf (S:At u p g st a w)(hpq:∀ x,p x→q x){x:Operand}{ts:Array TypeId}{t:TypeId}{c:Call}(hop:o.op = .call c)(hcal:c.callee = .builtin .len)(hargs:c.args=#[x])(hts:c.argTypes=ts)(ht0:ts[0]? = some t)
  (h:XR P t st (K2 st x) (fun n=>K (.d (.int .i64 n)) st)=some r):Goal u p q g st a w P o K r:=by
 have hv:=S.ev x
 have run:∀ n:Nat,(Builtin.len_ ts o.type #[a.eval x]).run P w = .ok (.int .i64 n) w→(execOp a.eval o).run P w = .ok (.value (.int .i64 n)) w:=by
  intro n e
  simp only [execOp,hop,resolve,hcal,hargs]
  subst hts
  simp [invoke,builtin,e]
 unfold XR at h
 split at h
 ·rename_i ht
  split at h
  ·rename_i s he
   rw [he] at hv
   obtain⟨b,hb,hs⟩:=hv
   refine Goal.val S hpq h (run s.length ?_) rfl trivial
   simp only [Builtin.len_,ht0,hb]
   simp [run_underlying ht,goInt,← hs]
  ·cases h
 ·rename_i e ht
  split at h
  ·rename_i sz xs hl
   obtain⟨A,cap,us,hA,_⟩:=uL S.hp hv hl
   refine Goal.val S hpq h (run xs.length ?_) rfl trivial
   simp only [Builtin.len_,ht0,hA]
   simp [run_underlying ht,goInt]
  ·cases h
 ·rename_i k e ht
  split at h
  ·rename_i no he
   rw [he] at hv
   have hv:a.eval x = .map (some (g.blk no)):=hv
   split at h
   ·rename_i kt xs hno
    obtain⟨es,clock,k1,k2,_⟩:=S.hp.ob _ _ hno
    have hlen:xs.length=es.size:=by rw [k2.length];simp
    refine Goal.val S hpq h (run xs.length ?_) rfl trivial
    simp only [Builtin.len_,ht0,hv]
    have hget:(getObj (g.blk no)).run P w = .ok (.map es clock) w:=by simp [getObj,Sem.run,k1]
    simp [run_underlying ht,goInt,hget,hlen]
   ·cases h
  ·rename_i he
   rw [he] at hv
   have hv:a.eval x = .map none:=hv
   refine Goal.val S hpq h (run 0 ?_) rfl trivial
   simp only [Builtin.len_,ht0,hv]
   simp [run_underlying ht,goInt]
  ·cases h
 ·cases h
theorem RJ (S:At u p g st a w)(hpq:∀ x,p x→q x){x y:Operand}{c:Call}{b:Builtin}{k k':IntKind}{n m:Int}(hop:o.op = .call c)(hcal:c.callee = .builtin b)(hargs:c.args=#[x,y])
  (hx:K2 st x = .d (.int k n)) (hy:K2 st y = .d (.int k' m)) (hk:k=k') :
  (b = .max→K (.d (.int k (max n m))) st=some r→Goal u p q g st a w P o K r)∧(b = .min→K (.d (.int k (min n m))) st=some r→Goal u p q g st a w P o K r):=by
 have hvx:=S.ev x
 have hvy:=S.ev y
 rw [hx] at hvx
 rw [hy] at hvy
 have hvx:=sP hvx
 have hvy:=sP hvy
 constructor
 ·intro hb h
  subst hb
  refine Goal.val S hpq h (v:= .int k (max n m)) ?_ rfl trivial
  simp only [execOp,hop,resolve,hcal,hargs,List.map_toArray,List.map_cons,List.map_nil,hvx,hvy]
  simp [invoke,builtin,Builtin.max_,Builtin.max2]
  split<;>omega
 ·intro hb h
  subst hb
  refine Goal.val S hpq h (v:= .int k (min n m)) ?_ rfl trivial
  simp only [execOp,hop,resolve,hcal,hargs,List.map_toArray,List.map_cons,List.map_nil,hvx,hvy]
  simp [invoke,builtin,Builtin.min_,Builtin.min2]
  split<;>omega
theorem Qi (S:At u p g st a w)(hpq:∀ x,p x→q x){x:Operand}{op:UnOp}{t:TypeId}{d:D}(ho:o.op = .unOp op t x)(hx:K2 st x = .d d)
  (h:JD op d (fun z=>K (.d z) st)=some r):Goal u p q g st a w P o K r:=by
 have hv:=S.ev x
 rw [hx] at hv
 unfold JD at h
 split at h
 ·rename_i k n
  have hv:a.eval x = .int k n:=hv
  refine Goal.val S hpq h (v:= .int k (k.wrap (0-n))) ?_ rfl trivial
  simp [execOp,ho,hv,Op.unary,Op.intArith]
 ·rename_i k n
  have hv:a.eval x = .int k n:=hv
  refine Goal.val S hpq h ?_ rfl trivial
  simp [execOp,ho,hv,Op.unary,Op.intBits]
 ·rename_i b
  have hv:a.eval x = .bool b:=hv
  refine Goal.val S hpq h (v:= .bool (!b)) ?_ rfl trivial
  simp [execOp,ho,hv,Op.unary]
 ·cases h
theorem xE {t ft:TypeId}{k off:Nat}(h:BG P t k=some (off,ft)):∃ fs f,P.underlying t=some (.struct fs)∧fs[k]? = some f∧f.offset=off∧f.type=ft:=by
 unfold BG at h
 split at h
 ·rename_i fs hfs
  split at h
  ·rename_i f hf
   simp only [B1,C7] at h
   exact⟨fs,f,hfs,hf,h.1,h.2⟩
  ·cases h
 ·cases h
theorem UO (S:At u p g st a w)(hpq:∀ x,p x→q x){x:Operand}{t ft:TypeId}{k off:Nat}(ho:o.op = .fieldAddr t x k)(hf:BG P t k=some (off,ft))(hs:(Nat.blt 0 (L6 P ft)&&CD P ft)=true)
  (h:(match K2 st x with
   | .ptr q f=>K (.ptr q (f+off)) st
   | .el sz xs i f=>K (.el sz xs i (f+off)) st
   | .rp q sz i f=>K (.rp q sz i (f+off)) st
   |_=>none)=some r):Goal u p q g st a w P o K r:=by
 obtain⟨fs,f,hu,hfk,rfl,rfl⟩:=xE hf
 simp only [A9] at hs
 obtain⟨d,info,_,hinfo,_,hsz⟩:=gS hs.2
 have hpos:info.size≠0:=by
  have h1:Nat.ble 1 (L6 P f.type)=true:=hs.1
  have:=B3 h1
  omega
 have hv:=S.ev x
 have hus:=S.Z7 x
 have run:∀ ad:Addr,a.eval x = .pointer (some ad)→(execOp a.eval o).run P w = .ok (.value (.pointer (some (ad.add f.offset)))) w:=by
  intro ad e
  simp only [execOp,ho,Instr.fieldAt,e]
  simp [run_underlying hu,hfk,Instr.sureAddr,fieldPlace,fY hinfo,hpos]
 split at h
 ·rename_i q' f' he
  rw [he] at hv hus
  refine Goal.val S hpq h (run _ (FG hv)) ?_ hus
  rw [K9];exact rfl
 ·rename_i sz xs i f' he
  rw [he] at hv
  obtain⟨ad,h1,h2,h3⟩:=hv
  refine Goal.val S hpq h (run _ h3) ?_ trivial
  refine⟨ad,h1,h2,?_⟩
  rw [cN,Nat.add_assoc]
 ·rename_i q' sz i f' he
  rw [he] at hv hus
  obtain⟨h0,b,h1,h2⟩:=hv
  refine Goal.val S hpq h (run _ h2) ?_ hus
  refine⟨h0,b,h1,?_⟩
  rw [K9,Nat.add_assoc]
 ·cases h
theorem Bk (S:At u p g st a w)(hpq:∀ x,p x→q x){x:Operand}{k:Nat}{vs:List V}(ho:o.op = .extract x k)(hx:K2 st x = .tup vs)(hk:k<vs.length)
  (h:K (OZ vs k) st=some r):Goal u p q g st a w P o K r:=by
 have hv:=S.ev x
 have hus:=S.Z7 x
 rw [hx] at hv hus
 obtain⟨us,h1,h2⟩:=hv
 have hn:∀ (vs:List V) (k:Nat),k<vs.length→vs[k]? = some (OZ vs k):=by
  intro vs
  induction vs with
  |nil=>intro k hk;simp at hk
  |cons v vs ih=>
   intro k hk
   cases k with
   |zero=>simp [OZ]
   |succ k=>
    show (v::vs)[k+1]? = some (OZ vs k)
    simpa using ih k (by simpa using hk)
 obtain⟨v,hv1,hv2⟩:=h2.get k _ (hn vs k hk)
 refine Goal.val S hpq h (v:=v) ?_ (eF hv2) (cM (hus _ (List.mem_of_getElem? (hn vs k hk))))
 have hv1:us[k]? = some v:=by simpa using hv1
 simp [execOp,ho,Instr.extract,h1,hv1]
theorem UQ (S:At u p g st a w)(hpq:∀ x,p x→q x){x i:Operand}{t:TypeId}{s:F9}{k:IntKind}{n:Int}(ho:o.op = .index t x i)(ht:P.underlying t=some .string)
  (hx:K2 st x = .d (.str s)) (hi:K2 st i = .d (.int k n)) (hb:(decide (0≤n)&&decide (n<s.length))=true)
  (h:K (.d (.int .u8 (s[n.toNat]?.getD 0).toNat)) st=some r):Goal u p q g st a w P o K r:=by
 have hvx:=S.ev x
 have hvi:=S.ev i
 rw [hx] at hvx
 rw [hi] at hvi
 obtain⟨b,hb1,hb2⟩:=hvx
 have hvi:=sP hvi
 simp only [A9,decide_eq_true_eq] at hb
 refine Goal.val S hpq h (v:= .int .u8 (s[n.toNat]?.getD 0).toNat) ?_ rfl trivial
 have hlt:n.toNat<b.size:=by
  have:s.length=b.size:=by rw [← hb2];exact E2
  omega
 have hget:b[n.toNat]? = some (s[n.toNat]?.getD 0):=by
  have h1:b[n.toNat]? = some (b[n.toNat]'hlt):=getElem?_pos b n.toNat hlt
  rw [h1,← hb2]
  have h2:b.data.toList[n.toNat]? = some (b[n.toNat]'hlt):=by
   rw [D0]
   exact C8 hlt
  rw [h2];rfl
 simp only [execOp,ho,Instr.index,hvi,hb1]
 simp [run_underlying ht,asIntOf,hb.1,hget]
end
end Go.AE
namespace Go.AE
open Go.RowKit
section
variable {u:Nat→Option Obj} {p q:Nat→Prop} {g:G} {st:St} {a:Act} {w:World} {P:Program} {o:Oper} {R:Type} {K:V→St→Option R} {r:R}
theorem uV {t:TypeId}{d:TypeDesc}{i:TypeInfo}(hd:P.underlying t=some d)(hi:P.info? t=some i)(hg:dY d=true){cs:Array Value}{off:Nat} :
  (part t cs off).run P w = .ok (.agg (cs.extract off (off+i.size))) w:=by
 simp only [part,Sem.run_bind,uU hd,hg,Result.andThen_ok,if_true,fY hi]
 rfl
theorem uW {t:TypeId}{d:TypeDesc}(hd:P.underlying t=some d)(hg:dY d=false){cs:Array Value}{off:Nat}{v:Value}(hv:cs[off]? = some v) :
  (part t cs off).run P w = .ok v w:=by
 simp only [part,Sem.run_bind,uU hd,hg,Result.andThen_ok,D6,if_false,hv]
 rfl
def TV (h:Nat→Option Obj)(P:Program)(t:TypeId)(cs:List D)(v:Value):Prop:=
 if P4 P t=true then ∃ us:Array Value,v = .agg us∧vW h cs us.toList else ∃ x,cs=[x]∧VD h x v
theorem mS:∀ {ts:List pI} {zs:List D},S3 ts zs=true→zs.length=ts.length
 |[],[],_=>rfl
 |[],_::_,h=>by simp [S3] at h
 |_::_,[],h=>by simp [S3] at h
 |a::zs,b::bs,h=>by simp only [S3,A9] at h;simp [mS h.2]
theorem rE:∀ {ts ts':List pI} {zs:List D},S3 (ts++ts') zs=true→S3 ts (zs.take ts.length)=true∧S3 ts' (zs.drop ts.length)=true
 |[],ts',zs,h=>by simpa [S3] using h
 |t::ts,ts',[],h=>by simp [S3] at h
 |t::ts,ts',a::zs,h=>by
  simp only [List.cons_append,S3,A9] at h
  have:=rE h.2
  simp only [A0,List.take_succ_cons,List.drop_succ_cons,S3,A9]
  exact⟨⟨h.1,this.1⟩,this.2⟩
theorem xB:∀ (n:Nat) {zs bs:List D},zs.length=bs.length→cE zs bs=(cE (zs.take n) (bs.take n)&&cE (zs.drop n) (bs.drop n))
 |0,zs,bs,_=>by simp [cE]
 |n+1,[],[],_=>by simp [cE]
 |n+1,[],_::_,h=>by simp at h
 |n+1,_::_,[],h=>by simp at h
 |n+1,a::zs,b::bs,h=>by
  simp only [cE,List.take_succ_cons,List.drop_succ_cons]
  rw [xB n (by simpa using h),Bool.and_assoc]
theorem DP {t:TypeId}{fs:Array Field}(h:P.underlying t=some (.struct fs)):P4 P t=true:=by simp [P4,h,dY]
theorem Ec {t:TypeId}(ht:CD P t=true){cs:List D}{us:Array Value}(h:vW g.h cs us.toList){off n:Nat}(hn:L6 P t=n)(hle:P4 P t=false→off+n≤cs.length)(h1:P4 P t=false→n=1) :
  ∃ v,(part t us off).run P w = .ok v w∧TV g.h P t ((cs.drop off).take n) v:=by
 obtain⟨d,info,hd,hinfo,hg,hs⟩:=gS ht
 have hlen:=BB h
 cases hagg:dY d with
 |true=>
  rw [hagg] at hg
  refine⟨_,uV hd hinfo hagg,?_⟩
  simp only [TV,hg,if_true]
  refine⟨_,rfl,?_⟩
  have:=KL (KJ h off) n
  rw [← hs,hn]
  simpa [Array.toList_extract,List.extract_eq_take_drop] using this
 |false=>
  rw [hagg] at hg
  have hn1:=h1 hg
  have hle:=hle hg
  have hlt:off<us.toList.length:=by omega
  obtain⟨x,hx,hv⟩:=JS h (C2 hlt)
  refine⟨_,uW hd hagg (by rw [← D0];exact C2 hlt),?_⟩
  simp only [TV,hg,D6,if_false]
  refine⟨x,?_,hv⟩
  subst hn1
  have hlt':off<cs.length:=by omega
  rw [List.drop_eq_getElem_cons hlt']
  have:cs[off]=x:=by rw [C2 hlt'] at hx;simpa using hx
  simp [this]
theorem TB {t:TypeId}{l:pI}{d:Nat}{zs bs:List D}{x y:Value}(hg:P4 P t=false)(ha:S3 [l] zs=true)(hb:S3 [l] bs=true)(hx:TV g.h P t zs x)(hy:TV g.h P t bs y)
  (hl:(P.underlying t=some .bool∧l = .bool)∨(∃ k,P.underlying t=some (.int k)∧l = .int k)∨(P.underlying t=some .string∧l = .str)) :
  (Op.equalIn (d+1) t x y).run P w = .ok (cE zs bs) w:=by
 simp only [TV,hg,D6,if_false] at hx hy
 obtain⟨a,rfl,hx⟩:=hx
 obtain⟨b,rfl,hy⟩:=hy
 simp only [S3,Bool.and_true] at ha hb
 rcases hl with ⟨ht,rfl⟩|⟨k,ht,rfl⟩|⟨ht,rfl⟩
 ·match a,b,ha,hb with
  | .bool a,.bool b,_,_=>
   have hx:x = .bool a:=hx
   have hy:y = .bool b:=hy
   subst hx;subst hy
   rw [run_equalIn_bool' w d t a b ht];simp [cE,qT]
 ·match a,b,ha,hb with
  | .int k1 a,.int k2 b,ha,hb=>
   have hx:x = .int k1 a:=hx
   have hy:y = .int k2 b:=hy
   subst hx;subst hy
   have h1:k=k1:=by simpa [aT] using ha
   have h2:k=k2:=by simpa [aT] using hb
   subst h1;subst h2
   rw [run_equalIn_int w d t k k a b ht];simp [cE,qT]
 ·match a,b,ha,hb with
  | .str a,.str b,_,_=>
   obtain⟨a',rfl,rfl⟩:=hx
   obtain⟨b',rfl,rfl⟩:=hy
   rw [run_equalIn_string w d t a' b' ht];simp [cE,qT,ByteArray.toList_eq]
theorem Jz {n:Nat}{t:TypeId}{ts:List pI}(h:FU P n t=some ts)(hg:P4 P t=false):ts.length=1:=by
 cases n with
 |zero=>simp [FU] at h
 |succ n=>
  simp only [FU] at h
  split at h
  ·cases h;rfl
  ·cases h;rfl
  ·cases h;rfl
  ·rename_i fs ht;rw [DP ht] at hg;cases hg
  ·cases h
theorem QL (n d:Nat)(ih:∀ {t:TypeId} {ts:List pI} {zs bs:List D} {x y:Value},FU P n t=some ts→S3 ts zs=true→S3 ts bs=true→TV g.h P t zs x→TV g.h P t bs y→
   (Op.equalIn d t x y).run P w = .ok (cE zs bs) w) {zs bs:List D} {xs ys:Array Value} (hx:vW g.h zs xs.toList) (hy:vW g.h bs ys.toList) :
  ∀ (fs:List Field) (off:Nat) (ts:List pI),LO (FU P n) P off fs=some ts→S3 ts (zs.drop off)=true→S3 ts (bs.drop off)=true→
   (Op.eqFields d xs ys fs).run P w = .ok (cE (zs.drop off) (bs.drop off)) w
 |[],off,ts,h,ha,hb=>by
  simp only [LO,B1] at h
  subst h
  have ha:=mS ha
  have hb:=mS hb
  rw [D1 ha,D1 hb]
  simp [Op.eqFields,cE]
 |f::fs,off,ts,h,ha,hb=>by
  simp only [LO] at h
  split at h
  ·rename_i ts1 h1
   obtain⟨hc,h⟩:=H8 h
   simp only [A9,decide_eq_true_eq] at hc
   obtain⟨⟨⟨hname,hoff⟩,hsz⟩,hok⟩:=hc
   have hoff:f.offset=off:=B0 hoff
   have hsz:L6 P f.type=ts1.length:=B0 hsz
   split at h
   ·rename_i ts2 h2
    simp only [B1] at h
    subst h
    obtain⟨a1,a2⟩:=rE ha
    obtain⟨b1,b2⟩:=rE hb
    have la:=mS ha
    have lb:=mS hb
    have hone:P4 P f.type=false→ts1.length=1:=Jz h1
    simp only [A7,F6] at la lb
    obtain⟨v1,p1,q1⟩:=Ec (w:=w) (off:=off) hok hx hsz (fun k=>by have:=hone k;omega) hone
    obtain⟨v2,p2,q2⟩:=Ec (w:=w) (off:=off) hok hy hsz (fun k=>by have:=hone k;omega) hone
    have he:=ih h1 a1 b1 q1 q2
    have hr:=QL n d ih hx hy fs (off+ts1.length) ts2 h2 (by rw [← List.drop_drop];exact a2) (by rw [← List.drop_drop];exact b2)
    simp only [Op.eqFields,hname,ne_eq,not_false_eq_true,if_true,hoff,Sem.run_bind,p1,p2,Result.andThen_ok,he]
    rw [xB (zs:=zs.drop off) (bs:=bs.drop off) ts1.length (by rw [F6,F6];omega),List.drop_drop,List.drop_drop]
    cases hq:cE ((zs.drop off).take ts1.length) ((bs.drop off).take ts1.length) with
    |false=>simp
    |true=>simp [hr]
   ·cases h
  ·cases h
theorem tL:∀ (n:Nat) {t:TypeId} {ts:List pI} {d:Nat} {zs bs:List D} {x y:Value},FU P n t=some ts→n≤d→S3 ts zs=true→S3 ts bs=true→TV g.h P t zs x→TV g.h P t bs y→
  (Op.equalIn d t x y).run P w = .ok (cE zs bs) w
 |0,_,_,_,_,_,_,_,h,_,_,_,_,_=>by simp [FU] at h
 |n+1,t,ts,0,zs,bs,x,y,h,hd,_,_,_,_=>by omega
 |n+1,t,ts,d+1,zs,bs,x,y,h,hd,ha,hb,hx,hy=>by
  simp only [FU] at h
  split at h
  ·rename_i ht
   cases h
   exact TB (by simp [P4,ht,dY]) ha hb hx hy (.inl ⟨ht,rfl⟩)
  ·rename_i k ht
   cases h
   exact TB (by simp [P4,ht,dY]) ha hb hx hy (.inr (.inl ⟨k,ht,rfl⟩))
  ·rename_i ht
   cases h
   exact TB (by simp [P4,ht,dY]) ha hb hx hy (.inr (.inr ⟨ht,rfl⟩))
  ·rename_i fs ht
   obtain⟨hp,h⟩:=K1 h
   have hg:=DP ht
   simp only [TV,hg,if_true] at hx hy
   obtain⟨xs,rfl,hx⟩:=hx
   obtain⟨ys,rfl,hy⟩:=hy
   have hfs:P.fieldsOf t=fs:=by simp [Program.fieldsOf,ht]
   rw [run_equalIn_agg w d t xs ys (by rw [hfs];exact ht) hp,hfs]
   exact QL n d (fun h1 h2 h3 h4 h5=>tL n h1 (by omega) h2 h3 h4 h5) hx hy fs.toList 0 ts h ha hb
  ·cases h
theorem YV {t:TypeId}(h:eJ P t=true):∃ e,P.underlying t=some (.slice e):=by
 unfold eJ iK at h
 split at h
 ·rename_i e he;exact⟨e,he⟩
 ·cases h
theorem iS {op:BinOp}{t:TypeId}{x y:Operand}{A A':Option Addr}{l l' c c':Nat}:(eqGuard op t x y (.slice A l c) (.slice A' l' c')).run P w = .ok () w:=by
 cases op<;>rfl
theorem run_eql_slice_nil (w:World)(t e:TypeId)(a:Option Addr)(l c:Nat)(h:P.underlying t=some (.slice e)):(binOp .eql t (.slice a l c) (.slice none 0 0)).run P w = .ok (.bool a.isNone) w:=by
 simp only [binOp]
 simp [run_equal_slice_nil w t e a l c h]
theorem Lo (S:At u p g st a w)(hpq:∀ x,p x→q x){x y:Operand}{op:BinOp}{t:TypeId}{b:Bool}{d e:D}(ho:∃ z,o.op = .binOp op t x y z)(hx:K2 st x = .d d)(hy:K2 st y = .d e)
  (h:wK P op t d e (fun z=>K (.d z) st)=some r):Goal u p q g st a w P o K r:=by
 obtain⟨zz,ho⟩:=ho
 have hvx:=S.ev x
 have hvy:=S.ev y
 rw [hx] at hvx
 rw [hy] at hvy
 have run:∀ v,(eqGuard op t x y (a.eval x) (a.eval y)).run P w = .ok () w→(binOp op t (a.eval x) (a.eval y)).run P w = .ok v w→(execOp a.eval o).run P w = .ok (.value v) w:=by
  intro v h1 h2
  simp only [execOp,ho]
  simp [h1,h2]
 unfold wK at h
 split at h
 ·rename_i k n k' m
  have hvx:a.eval x = .int k n:=hvx
  have hvy:a.eval y = .int k' m:=hvy
  rw [hvx,hvy] at run
  split at h
  ·obtain⟨hm,h⟩:=K1 h
   have hm:¬ m<0:=E7 hm
   refine Goal.val S hpq h (run (.int k (k.wrap (n*2 ^ (min m.toNat k.bits)))) xA ?_) rfl trivial
   simp [binOp,Op.shift,hm]
  ·obtain⟨hm,h⟩:=K1 h
   have hm:¬ m<0:=E7 hm
   refine Goal.val S hpq h (run (.int k (n.fdiv (2 ^ (min m.toNat k.bits)))) xA ?_) rfl trivial
   simp [binOp,Op.shift,hm]
  ·rename_i h1 h2
   replace h:=H8 h
   obtain⟨hk,h⟩:=h
   have hk:k=k':=E5 hk
   subst hk
   obtain⟨z,v,k1,k2,k3⟩:=Bb (P:=P) (w:=w) (g:=g) (t:=t) h ⟨h1,h2⟩
   exact Goal.val S hpq k1 (run v xA k2) k3 trivial
 ·rename_i s s'
  obtain⟨b1,hb1,rfl⟩:=hvx
  obtain⟨b2,hb2,rfl⟩:=hvy
  rw [hb1,hb2] at run
  obtain⟨z,v,k1,k2,k3⟩:=Cl (P:=P) (w:=w) (g:=g) (t:=t) h
  exact Goal.val S hpq k1 (run v XE k2) k3 trivial
 ·rename_i b1 b2
  have hvx:a.eval x = .bool b1:=hvx
  have hvy:a.eval y = .bool b2:=hvy
  rw [hvx,hvy] at run
  split at h
  ·rename_i ht
   have hb:=WO (P:=P) (w:=w) (t:=t) (b:=b1) (b':=b2) ht (op:=op)
   split at h
   ·exact Goal.val S hpq h (run _ DL hb.1) rfl trivial
   ·exact Goal.val S hpq h (run _ DL hb.2) rfl trivial
   ·cases h
  ·cases h
 ·rename_i zs bs
  obtain⟨xs,hvx,hxs⟩:=hvx
  obtain⟨ys,hvy,hys⟩:=hvy
  rw [hvx,hvy] at run
  obtain⟨hc,h⟩:=H8 h
  simp only [A9,D8] at hc
  obtain⟨⟨hg,hm⟩,hc⟩:=hc
  split at hc
  ·rename_i ts hts
   simp only [A9] at hc
   have he:=tL (P:=P) (w:=w) 8 (d:=10000) hts (by omega) hc.1 hc.2 (by simp only [TV,hg,if_true];exact⟨xs,rfl,hxs⟩) (by simp only [TV,hg,if_true];exact⟨ys,rfl,hys⟩)
   split at h
   ·refine Goal.val S hpq h (run _ (run_eqGuard_agg w _ t x y xs ys hm) ?_) rfl trivial
    rw [run_eql_struct w t xs ys,he];rfl
   ·refine Goal.val S hpq h (run _ (run_eqGuard_agg w _ t x y xs ys hm) ?_) rfl trivial
    rw [run_neq_struct w t xs ys,he];rfl
   ·cases h
  ·cases hc
 ·rename_i sz xs e1 e2
  obtain⟨A,cap,hvx,_,_,hA⟩:=hvx
  have hvy:a.eval y = .slice none 0 0:=hvy
  rw [hvx,hvy] at run
  obtain⟨ht,h⟩:=H8 h
  obtain⟨e,ht⟩:=YV ht
  cases hxs:xs.isEmpty with
  |true=>
   simp only [hxs,cond_true] at h
   split at h
   ·exact Goal.val S hpq h (run _ iS (run_eql_slice_nil w t e A xs.length cap ht)) ⟨_,rfl⟩ trivial
   ·exact Goal.val S hpq h (run _ iS (run_neq_slice_nil w t e A xs.length cap ht)) ⟨_,rfl⟩ trivial
   ·cases h
  |false=>
   simp only [hxs,cond_false] at h
   have hne:xs≠[]:=fun e=>by rw [e] at hxs;cases hxs
   obtain⟨ad,rfl,_⟩:=hA.resolve_left hne
   split at h
   ·exact Goal.val S hpq h (run _ iS (run_eql_slice_nil w t e (some ad) xs.length cap ht)) rfl trivial
   ·exact Goal.val S hpq h (run _ iS (run_neq_slice_nil w t e (some ad) xs.length cap ht)) rfl trivial
   ·cases h
 ·have hvx:a.eval x = .slice none 0 0:=hvx
  have hvy:a.eval y = .slice none 0 0:=hvy
  rw [hvx,hvy] at run
  obtain⟨ht,h⟩:=H8 h
  obtain⟨e,ht⟩:=YV ht
  split at h
  ·exact Goal.val S hpq h (run _ iS (run_eql_slice_nil w t e none 0 0 ht)) rfl trivial
  ·exact Goal.val S hpq h (run _ iS (run_neq_slice_nil w t e none 0 0 ht)) rfl trivial
  ·cases h
 ·cases h
theorem NM:∀ (ns:List Int) (s:ByteArray),(ns.foldl (fun r n=>r.push (UInt8.ofNat n.toNat)) s).data.toList=s.data.toList++ns.map fun n=>UInt8.ofNat n.toNat
 |[],s=>by simp
 |n::ns,s=>by
  rw [List.foldl_cons,NM ns]
  simp [ByteArray.push]
theorem HZ:∀ {xs:List D} {us:List Value} {sz:Nat},mY g.h sz xs us→wI xs=true→∃ ns:List Int,us=ns.map (Value.int .u8)∧xs.map toByte=ns.map fun n=>UInt8.ofNat n.toNat
 |[],us,sz,h,_=>⟨[],h,rfl⟩
 |x::xs,us,sz,h,hb=>by
  obtain⟨v,r,rfl,h1,h3,h4,h5⟩:=h
  match x,hb,h4 with
  | .int .u8 n,hb,h4=>
   have h4:v = .int .u8 n:=h4
   subst h4
   obtain⟨ns,rfl,e⟩:=HZ h5 (by simpa [wI] using hb)
   exact⟨n::ns,rfl,by simp [toByte,e]⟩
theorem Bj (S:At u p g st a w)(hpq:∀ x,p x→q x){x:Operand}{src dst:TypeId}(ho:o.op = .convert src dst x)
  (h:(match P.underlying src,P.underlying dst,K2 st x with
  |some (.int _),some (.int k),.d (.int _ n)=>K (.d (.int k (k.wrap n))) st
  |some (.int _),some .string,.d (.int _ n)=>bif decide (0≤n)&&decide (n<128) then K (.d (.str [UInt8.ofNat n.toNat])) st else none
  |some .string,some .string,.d (.str s)=>K (.d (.str s)) st
  |some (.slice e),some .string,x=>(match P.underlying e with
   |some (.int .u8)=>(match MU st.h x with
    |some (_,xs)=>bif wI xs then K (.d (.str (xs.map toByte))) st else none
    |none=>none)
   |_=>none)
  |_,_,_=>none)=some r):Goal u p q g st a w P o K r:=by
 have hv:=S.ev x
 have run:∀ v,(convert src dst (a.eval x)).run P w = .ok v w→(execOp a.eval o).run P w = .ok (.value v) w:=by
  intro v h1
  simp only [execOp,ho]
  simp [h1]
 split at h
 ·rename_i k n hs hd he
  rw [he] at hv
  have hv:=sP hv
  refine Goal.val S hpq h (run _ ?_) rfl trivial
  rw [hv]
  simp [convert,run_underlying hs,run_underlying hd,Conv.intToInt]
 ·rename_i k n hs hd he
  rw [he] at hv
  have hv:=sP hv
  obtain⟨hb,h⟩:=H8 h
  simp only [A9,decide_eq_true_eq] at hb
  refine Goal.val S hpq h (run (.string ⟨#[UInt8.ofNat n.toNat]⟩) ?_) ⟨_,rfl,rfl⟩ trivial
  have e:Utf8.encode n=⟨#[UInt8.ofNat n.toNat]⟩:=by
   have h1:Utf8.valid n=true:=by
    unfold Utf8.valid
    simp
    omega
   unfold Utf8.encode
   simp only [h1,if_true]
   rw [if_pos (by omega)]
  rw [hv]
  simp [convert,run_underlying hs,run_underlying hd,Conv.intToString,e]
 ·rename_i s hs hd he
  rw [he] at hv
  obtain⟨b,hb,rfl⟩:=hv
  refine Goal.val S hpq h (run (.string b) ?_) ⟨b,rfl,rfl⟩ trivial
  rw [hb]
  simp [convert,run_underlying hs,run_underlying hd]
 ·rename_i e hs hd
  split at h
  ·rename_i he
   split at h
   ·rename_i sz xs hl
    obtain⟨hab,h⟩:=H8 h
    obtain⟨A,cap,us,hA,h2,h3,h4,h5⟩:=uL S.hp hv hl
    obtain⟨ns,hns,hmap⟩:=HZ h4 hab
    rw [hA] at run
    have hlen:xs.length=ns.length:=by have:=congrArg List.length hmap;simpa using this
    rw [run_convert_bytes_string w src dst e A xs.length cap hs he hd] at run
    rcases h5 with rfl|⟨ad,rfl,h5⟩
    ·have hns0:ns=[]:=D1 (by rw [← hlen];rfl)
     cases A with
     |none=>
      exact Goal.val S hpq h (run (.string .empty) (by simp [Conv.bytesToString])) ⟨_,rfl,rfl⟩ trivial
     |some ad=>
      refine Goal.val S hpq h (run (.string .empty) ?_) ⟨_,rfl,rfl⟩ trivial
      exact run_bytesToString w ad 0 cap [] (run_loadCells_list w ad [] (by simp))
    ·refine Goal.val S hpq h (run _ (run_bytesToString w ad xs.length cap ns ?_)) ⟨_,rfl,?_⟩ trivial
     ·have:=run_loadCells_list (P:=P) w ad us h5
      rw [hns] at this
      rw [hlen]
      simpa using this
     ·rw [NM,hmap];rfl
   ·cases h
  ·cases h
 ·cases h
theorem UP (S:At u p g st a w)(hpq:∀ x,p x→q x){x i:Operand}{t:TypeId}(ho:o.op = .indexAddr t x i)
  (h:jO P t (K2 st x) (K2 st i) st K=some r):Goal u p q g st a w P o K r:=by
 have hvx:=S.ev x
 have hvi:=S.ev i
 have hus:=S.Z7 x
 unfold jO at h
 obtain⟨hc,h⟩:=K1 h
 rw [Bool.not_eq_false'] at hc
 have hel:∃ e,iK P t=some e∧CD P e=true:=by
  split at hc
  all_goals first
   |(simp only [A9] at hc;exact⟨_,by assumption,hc.1⟩)
   |cases hc
 obtain⟨e,hel,hok⟩:=hel
 obtain⟨d,info,hd,hinfo,_,hsz⟩:=gS hok
 have hslice:P.underlying t=some (.slice e):=by
  unfold iK at hel
  split at hel
  ·rename_i e' he;cases hel;exact he
  ·cases hel
 have hE:P.elem t=e:=by simp [Program.elem,hslice]
 have run:∀ (ad:Addr) (len cap:Nat) (k:IntKind) (n:Int),a.eval x = .slice (some ad) len cap→a.eval i = .int k n→0≤n→n<len→
   (execOp a.eval o).run P w = .ok (.value (.pointer (some (ad.add (n.toNat*L6 P e))))) w:=by
  intro ad len cap k n e1 e2 h1 h2
  simp only [execOp,ho,e1,e2]
  simp [run_indexAt_slice w t ad len cap k n (by rw [hE];exact hslice),h1,h2,hE,fY hinfo,hsz]
 split at h
 ·rename_i k n hi
  rw [hi] at hvi
  have hvi:=sP hvi
  split at h
  ·rename_i sz xs hx
   rw [hx] at hvx hc
   rw [hel] at hc
   simp only [A9] at hc
   have hs:L6 P e=sz:=(B0 hc.2).symm
   obtain⟨hb,h⟩:=H8 h
   simp only [A9,decide_eq_true_eq] at hb
   obtain⟨A,cap,hA,_,_,hr⟩:=hvx
   have hne:xs≠[]:=by intro e';rw [e'] at hb;simp at hb;omega
   rcases hr with hr|⟨ad,rfl,hr⟩
   ·exact absurd hr hne
   ·refine Goal.val S hpq h (run ad _ _ k n hA hvi hb.1 hb.2) ?_ trivial
    exact⟨ad,hr,by omega,by rw [hs,Nat.add_zero]⟩
  ·rename_i ro hx
   rw [hx] at hvx hc hus
   split at h
   ·rename_i e' sz xs fz hrow
    rw [hel] at hc
    simp only [hrow,A9] at hc
    have hs:L6 P e=sz:=(B0 hc.2).symm
    obtain⟨hb,h⟩:=H8 h
    simp only [A9,decide_eq_true_eq] at hb
    have hvx:a.eval x=g.hdr ro:=hvx.1
    rcases DN S.hp hrow with ⟨h1,rfl⟩|⟨b,cap,h1,h2,h3⟩
    ·simp at hb;omega
    ·rw [h1] at hvx
     refine Goal.val S hpq h (run _ _ _ k n hvx hvi hb.1 hb.2) ?_ hus
     refine⟨by rw [h1];simp only [GB];omega,b,by rw [h1];rfl,?_⟩
     rw [K9,hs];simp
   ·cases h
  ·rename_i ro z lo m hx
   rw [hx] at hvx hc hus
   split at h
   ·rename_i e' sz xs fz hrow
    rw [hel] at hc
    simp only [A9] at hc
    have hs:L6 P e=z:=(B0 hc.2).symm
    obtain⟨hb,h⟩:=H8 h
    simp only [A9,decide_eq_true_eq] at hb
    obtain⟨⟨hz,hb1⟩,hb2⟩:=hb
    have hz:z=sz:=B0 hz
    obtain⟨hln,A,cap,hvx,_,_,hA⟩:=hvx
    rcases hA with rfl|⟨b,hbk,rfl⟩
    ·omega
    ·refine Goal.val S hpq h (run _ _ _ k n hvx hvi hb1 hb2) ?_ hus
     refine⟨by omega,b,hbk,?_⟩
     rw [K9,hs,← hz,Nat.add_zero,Nat.add_mul]
   ·cases h
  ·cases h
 ·cases h
theorem WE {x:V}{v:Value}(h:VV g x v):VL g (mO x) v:=by
 match x with
 | .tup _=>exact (trivial:VD g.h .top _)
 | .agg _=>exact (trivial:VD g.h .top _)
 | .fn f []=>exact h
 | .fn f (_::_)=>exact (trivial:VD g.h .top _)
 | .d x=>exact h
 | .ptr o off=>exact h
 | .el sz xs i off=>exact h
 | .rp o sz i off=>exact h
 | .row o=>exact h
 | .bp ..=>exact (trivial:VD g.h .top _)
 | .mp o=>exact h
 | .sub o sz lo n=>exact h
theorem PO {x:V}(h:x.T0 p):(mO x).lX p:=by
 match x with
 | .agg _=>trivial
 | .fn f []=>trivial
 | .fn f (_::_)=>trivial
 | .tup _=>trivial
 | .d x=>trivial
 | .ptr o off=>exact h
 | .el sz xs i off=>trivial
 | .rp o sz i off=>exact h
 | .row o=>exact h
 | .mp o=>exact h
 | .bp ..=>trivial
 | .sub o sz lo n=>exact h
theorem YI (S:At u p g st a w)(hpq:∀ x,p x→q x){f:FuncId}{first captured:Array Operand}(ho:o.op = .makeFunc (.func f) first captured)
  (h:(bif captured.isEmpty&&first.isEmpty then K (.d (.fn f)) st else bif first.isEmpty then K (.fn f (captured.toList.map fun x=>mO (K2 st x))) st else none)=some r):Goal u p q g st a w P o K r:=by
 have run:first=#[]→(execOp a.eval o).run P w = .ok (.value (.func (.func f) #[] (captured.map a.eval))) w:=by
  intro e
  subst e
  simp [execOp,ho,Instr.makeFunc]
 cases hb:(captured.isEmpty&&first.isEmpty) with
 |true=>
  rw [hb] at h
  simp only [A9,Array.isEmpty_iff] at hb
  obtain⟨rfl,hf⟩:=hb
  exact Goal.val S hpq h (run hf) (show Value.func _ _ _=_ by simp) trivial
 |false=>
  rw [hb] at h
  replace h:=H8 h
  obtain⟨hf,h⟩:=h
  have hf:first=#[]:=by simpa using hf
  have hF:∀ xs:List Operand,F2 (VL g) (xs.map fun x=>mO (K2 st x)) (xs.map a.eval):=by
   intro xs
   induction xs with
   |nil=>exact .nil
   |cons x xs ih=>exact .cons (WE (S.ev x)) ih
  refine Goal.val S hpq h (run hf) ?_ ?_
  ·cases hc:captured.toList with
   |nil=>rw [hf] at hb;simp at hb;exact absurd (by simpa using hc) hb
   |cons x xs=>
    refine⟨captured.map a.eval,rfl,?_⟩
    have:=hF captured.toList
    rw [hc] at this
    simpa [hc] using this
  ·intro v hv
   obtain⟨x,_,rfl⟩:=List.mem_map.1 hv
   exact PO (S.Z7 x)
theorem Ac {cs:List V}{v:Value}(h:VV g (.agg cs) v):∃ us:Array Value,v = .agg us∧F2 (VL g) cs us.toList:=h
theorem lZ {x:V}{v:Value}(h:VL g x v)(hx:x.lX p):x.V7 p:=by
 match x,hx with
 | .agg _,_=>exact h.elim
 | .fn _ [],_=>intro v hv;cases hv
 | .fn _ (_::_),_=>exact h.elim
 | .tup _,_=>exact h.elim
 | .d _,_=>trivial
 | .ptr ..,k=>exact k
 | .el ..,_=>trivial
 | .rp ..,k=>exact k
 | .row _,k=>exact k
 | .mp _,k=>exact k
 | .bp ..,k=>exact k
 | .sub ..,k=>exact k
theorem F2.mem {α β:Type}{R:α→β→Prop}{zs:List α}{bs:List β}(h:F2 R zs bs):∀ x∈zs,∃ b∈bs,R x b:=by
 induction h with
 |nil=>intro x hx;cases hx
 |cons hr _ ih=>
  intro x hx
  rcases B7.1 hx with rfl|hx
  ·exact⟨_,by simp,hr⟩
  ·obtain⟨b,h1,h2⟩:=ih x hx;exact⟨b,by simp [h1],h2⟩
theorem Ls (S:At u p g st a w)(hpq:∀ x,p x→q x){x:Operand}{t ft:TypeId}{k off:Nat}(ho:o.op = .field t x k)(hf:BG P t k=some (off,ft))(hok:CD P ft=true)
  (h:(match K2 st x with
   | .d (.agg cs)=>bif Nat.ble (off+L6 P ft) cs.length then (bif P4 P ft then K (.d (.agg ((cs.drop off).take (L6 P ft)))) st else (match cs[off]? with|some z=>K (.d z) st|none=>none)) else none
   | .agg cs=>bif Nat.ble (off+L6 P ft) cs.length then (bif P4 P ft then K (gN ((cs.drop off).take (L6 P ft))) st else (match cs[off]? with|some z=>K z st|none=>none)) else none
   |_=>none)=some r):Goal u p q g st a w P o K r:=by
 obtain⟨fs,f,hu,hfk,rfl,rfl⟩:=xE hf
 obtain⟨d,info,hd,hinfo,hg,hsz⟩:=gS hok
 have hv:=S.ev x
 have hus:=S.Z7 x
 have run:∀ (us:Array Value) (v:Value),a.eval x = .agg us→(part f.type us f.offset).run P w = .ok v w→(execOp a.eval o).run P w = .ok (.value v) w:=by
  intro us v e1 e2
  simp only [execOp,ho,Instr.field,e1]
  simp [run_underlying hu,hfk,asAgg,e2]
 split at h
 ·rename_i cs he
  rw [he] at hv
  obtain⟨us,hus',hvs⟩:=hv
  obtain⟨hle,h⟩:=H8 h
  cases hagg:dY d with
  |true=>
   rw [hagg] at hg
   rw [hg] at h
   refine Goal.val S hpq h (run us _ hus' (uV hd hinfo hagg)) ?_ trivial
   refine⟨_,rfl,?_⟩
   have:=KL (KJ hvs f.offset) (L6 P f.type)
   rw [← hsz]
   simpa [Array.toList_extract,List.extract_eq_take_drop] using this
  |false=>
   rw [hagg] at hg
   rw [hg] at h
   simp only [cond_false] at h
   split at h
   ·rename_i z hz
    have hlt:f.offset<us.toList.length:=by
     rw [← BB hvs];exact (List.getElem?_eq_some_iff.1 hz).1
    obtain⟨y,hy,hyv⟩:=JS hvs (C2 hlt)
    rw [hz] at hy
    cases hy
    exact Goal.val S hpq h (run us _ hus' (uW hd hagg (by rw [← D0];exact C2 hlt))) hyv trivial
   ·cases h
 ·rename_i cs he
  rw [he] at hv hus
  obtain⟨us,hus',hvs⟩:=Ac hv
  have hcu:∀ c∈cs,c.V7 p:=fun c hc=>by
   obtain⟨b,_,hb⟩:=hvs.mem c hc
   exact lZ hb (hus c hc)
  obtain⟨hle,h⟩:=H8 h
  cases hagg:dY d with
  |true=>
   rw [hagg] at hg
   rw [hg] at h
   refine Goal.val S hpq h (run us _ hus' (uV hd hinfo hagg)) ?_ (cM (nV fun c hc=>hcu c (List.mem_of_mem_drop (List.mem_of_mem_take hc))))
   have:=tN (((hvs.drop f.offset).take (L6 P f.type)).mono fun c _ b hb=>jF hb)
   rw [← hsz]
   have e:us.extract f.offset (f.offset+L6 P f.type)=((us.toList.drop f.offset).take (L6 P f.type)).toArray:=by
    apply Array.ext'
    simp [Array.toList_extract,List.extract_eq_take_drop]
   rw [e]
   exact eF this
  |false=>
   rw [hagg] at hg
   rw [hg] at h
   simp only [cond_false] at h
   split at h
   ·rename_i z hz
    obtain⟨v,hv1,hv2⟩:=hvs.get f.offset z hz
    exact Goal.val S hpq h (run us _ hus' (uW hd hagg (by rw [← D0];exact hv1))) (eF (jF hv2)) (cM (hcu z (List.mem_of_getElem? hz)))
   ·cases h
 ·cases h
end
end Go.AE
namespace Go.AE
open Go.RowKit
section
variable {u:Nat→Option Obj} {p q:Nat→Prop} {g:G} {st:St} {a:Act} {w:World} {P:Program} {o:Oper} {R:Type} {K:V→St→Option R} {r:R}
theorem xS (S:At u p g st a w){x:Option Operand}{d n:Int}(h:lJ d (x.map (K2 st))=some n):(x=none∧n=d)∨∃ y k,x=some y∧a.eval y = .int k n:=by
 cases x with
 |none=>simp only [Option.map_none,lJ,B1] at h;exact .inl ⟨rfl,h.symm⟩
 |some y=>
  right
  simp only [Option.map_some] at h
  have hv:=S.ev y
  match he:K2 st y with
  | .d (.int k m)=>
   rw [he] at h hv
   simp only [lJ,B1] at h
   subst h
   exact⟨y,k,rfl,hv⟩
  | .d .top | .d (.bool _) | .d (.str _) | .d (.Z ..) | .d (.nils ..) | .d .und | .d (.agg _) | .d (.fn _) | .d .nilp | .d .nilf | .d .nilm | .d .nili | .d .ub | .d (.iface ..) | .d (.meth ..)=>rw [he] at h;simp [lJ] at h
  | .ptr .. | .el .. | .rp .. | .row _ | .sub .. | .agg _ | .fn .. | .tup _ | .mp _ | .bp ..=>rw [he] at h;simp [lJ] at h
theorem qF (S:At u p g st a w){lo hi:Option Operand}{l h:Int}{b:Bool}{len cap:Nat}(hlo:lJ 0 (lo.map (K2 st))=some l)(hhi:lJ len (hi.map (K2 st))=some h)
  (h1:0≤l) (h2:l≤h) (h3:h≤len) (hc:len≤cap) :
  (Instr.sliceBounds b len cap (lo.map a.eval) (hi.map a.eval) none).run P w = .ok (l.toNat,h.toNat,cap) w:=by
 have hh:∀ code,(match (hi.map a.eval:Option Value),(none:Option Value) with
  |some v,some _=>(stuck "":Sem Nat)
  |some v,none=>Instr.sliceBound v cap code
  |none,none=>pure len
  |none,some _=>stuck "").run P w = .ok h.toNat w:=by
  intro code
  rcases xS S hhi with ⟨rfl,rfl⟩|⟨y,k,rfl,hy⟩
  ·simp
  ·simp only [Option.map_some,hy]
   rw [run_sliceBound w k h cap code (by omega) (by omega)]
 have hcap:l≤(h.toNat:Int):=by omega
 rcases xS S hhi with ⟨rfl,rfl⟩|⟨y,k,rfl,hy⟩<;>rcases xS S hlo with ⟨rfl,rfl⟩|⟨y',k',rfl,hy'⟩
 ·simp [Instr.sliceBounds]
 ·simp only [Instr.sliceBounds,Option.map_none,Option.map_some,hy',Sem.run_bind,Sem.run_pure,Result.andThen_ok]
  rw [run_sliceBound w k' l len _ h1 (by omega)]
  simp
 ·simp only [Instr.sliceBounds,Option.map_none,Option.map_some,hy,Sem.run_bind,Sem.run_pure,Result.andThen_ok]
  rw [run_sliceBound w k h cap _ (by omega) (by omega)]
  simp
 ·simp only [Instr.sliceBounds,Option.map_some,hy,hy',Sem.run_bind,Sem.run_pure,Result.andThen_ok]
  rw [run_sliceBound w k h cap _ (by omega) (by omega)]
  simp only [Result.andThen_ok]
  rw [run_sliceBound w k' l h.toNat _ h1 (by omega)]
  simp
theorem lH {t e:TypeId}(h:iK P t=some e):P.underlying t=some (.slice e):=by
 unfold iK at h
 split at h
 ·rename_i e' he;cases h;exact he
 ·cases h
theorem mV {t e:TypeId}(ht:P.underlying t=some (.slice e))(hok:CD P e=true){A:Option Addr}{len cap l h:Nat}{lo hi:Option Value}
  (hb:(Instr.sliceBounds true len cap lo hi none).run P w = .ok (l,h,cap) w) :
  (Instr.sliceAt t (.slice A len cap) lo hi none).run P w = .ok (.slice (if cap=l then A else A.map (·.add (l*L6 P e))) (h-l) (cap-l)) w:=by
 obtain⟨d,info,hd,hinfo,hg,hsz⟩:=gS hok
 simp only [Instr.sliceAt,Sem.run_bind,run_underlying ht,Result.andThen_ok,Instr.slice]
 simp [hb,fY hinfo,hsz]
theorem PI {t:TypeId}(ht:P.underlying t=some .string){s:ByteArray}{l h:Nat}{lo hi:Option Value}
  (hb:(Instr.sliceBounds false s.size s.size lo hi none).run P w = .ok (l,h,s.size) w) :
  (Instr.sliceAt t (.string s) lo hi none).run P w = .ok (.string (s.extract l h)) w:=by
 simp only [Instr.sliceAt,Sem.run_bind,run_underlying ht,Result.andThen_ok,Instr.slice]
 simp [hb]
theorem WB {hh:Nat→Option Obj}{sz:Nat}{xs:List D}{ad:Addr}(h:Aa hh sz xs ad)(n:Nat):Aa hh sz (xs.drop n) (ad.add (n*sz)):=by
 obtain⟨us,h1,h2⟩:=tD h
 refine oI (fun _ _ h=>h) (tC n h1) fun j v hj=>?_
 rw [List.getElem?_drop] at hj
 rw [cN]
 exact h2 _ v hj
theorem Ja {hh:Nat→Option Obj}{sz:Nat}{xs:List D}{ad:Addr}(h:Aa hh sz xs ad)(n:Nat):Aa hh sz (xs.take n) ad:=by
 obtain⟨us,h1,h2⟩:=tD h
 refine oI (fun _ _ h=>h) (qK n h1) fun j v hj=>?_
 rw [List.getElem?_take] at hj
 split at hj
 ·exact h2 _ v hj
 ·cases hj
theorem Lv (S:At u p g st a w)(hpq:∀ x,p x→q x){x:Operand}{lo hi mx:Option Operand}{t:TypeId}(ho:o.op = .slice t x lo hi mx)
  (h:yD P t (K2 st x) (lo.map (K2 st)) (hi.map (K2 st)) (mx.map (K2 st)) st K=some r):Goal u p q g st a w P o K r:=by
 have hv:=S.ev x
 have hus:=S.Z7 x
 unfold yD at h
 cases mx with
 |some m=>cases h
 |none=>
  simp only [Option.map_none] at h
  obtain⟨hc,h⟩:=K1 h
  rw [Bool.not_eq_false'] at hc
  have run:∀ v,(Instr.sliceAt t (a.eval x) (lo.map a.eval) (hi.map a.eval) none).run P w = .ok v w→(execOp a.eval o).run P w = .ok (.value v) w:=by
   intro v e
   simp only [execOp,ho,Option.map_none]
   simp [e]
  split at h
  ·rename_i s he
   rw [he] at hc hv
   have ht:P.underlying t=some .string:=by
    split at hc
    ·assumption
    all_goals first|cases hc|(rename_i h1 h2;cases h2)
   obtain⟨b,hb,rfl⟩:=hv
   split at h
   ·rename_i l hh hl hhi
    obtain⟨hcond,h⟩:=H8 h
    simp only [A9,decide_eq_true_eq] at hcond
    obtain⟨⟨h1,h2⟩,h3⟩:=hcond
    have hlen:b.data.toList.length=b.size:=E2
    rw [hlen] at hhi h3
    have hbd:=qF (P:=P) (b:=false) S hl hhi h1 h2 h3 (B9 _)
    rw [hb] at run
    refine Goal.val S hpq h (run _ (PI ht hbd)) ⟨_,rfl,?_⟩ trivial
    simp [ByteArray.data_extract,Array.toList_extract,List.extract_eq_take_drop]
   ·cases h
  ·rename_i sz xs he
   rw [he] at hc hv
   split at hc
   ·rename_i h2;cases h2
   ·rename_i e sz' xs' ht he'
    cases he'
    simp only [A9] at hc
    have hs:L6 P e=sz:=(B0 hc.2).symm
    obtain⟨A,cap,hA,hn,hcm,hr⟩:=hv
    split at h
    ·rename_i l hh hl hhi
     obtain⟨hcond,h⟩:=H8 h
     simp only [A9,decide_eq_true_eq] at hcond
     obtain⟨⟨h1,h2⟩,h3⟩:=hcond
     have hbd:=qF (P:=P) (b:=true) S hl hhi h1 h2 h3 hn
     rw [hA] at run
     refine Goal.val S hpq h (run _ (mV ht hc.1 hbd)) ?_ trivial
     have hlen:((xs.drop l.toNat).take (hh.toNat-l.toNat)).length=hh.toNat-l.toNat:=by simp;omega
     refine⟨_,_,by rw [hlen],by omega,by omega,?_⟩
     by_cases hz:hh.toNat-l.toNat=0
     ·left;rw [hz];rfl
     ·right
      rcases hr with rfl|⟨ad,rfl,hr⟩
      ·simp at h3;omega
      ·rw [if_neg (by omega)]
       refine⟨_,rfl,?_⟩
       rw [hs]
       exact Ja (WB hr _) _
    ·cases h
   ·rename_i h2;cases h2
   ·cases hc
  ·rename_i ro he
   rw [he] at hc hv hus
   split at h
   ·rename_i e' sz xs fz hrow
    obtain⟨hc2,h⟩:=K1 h
    rw [Bool.not_eq_false'] at hc2
    split at hc2
    ·rename_i e ht
     simp only [ht] at hc
     simp only [A9] at hc2
     have hs:sz=L6 P e:=B0 hc2.2
     have hv:a.eval x=g.hdr ro:=hv.1
     split at h
     ·rename_i l hh hl hhi
      replace h:=H8 h
      obtain⟨hcond,h⟩:=h
      simp only [A9,decide_eq_true_eq] at hcond
      obtain⟨⟨h1,h2⟩,h3⟩:=hcond
      rcases DN S.hp hrow with ⟨k1,hx0⟩|⟨b,cap,k1,k2,k3⟩
      ·rw [hv,k1] at run
       rw [hx0] at h3 hhi
       have hbd:=qF (P:=P) (b:=true) S hl hhi h1 h2 h3 (B9 _)
       refine Goal.val S hpq h (run _ (mV ht hc hbd)) ?_ hus
       simp only [A8] at h3
       refine⟨by rw [k1];simp [GB];omega,_,_,rfl,by omega,by simp [maxLen],.inl (by omega)⟩
      ·rw [hv,k1] at run
       have hbd:=qF (P:=P) (b:=true) S hl hhi h1 h2 h3 k2
       refine Goal.val S hpq h (run _ (mV ht hc hbd)) ?_ hus
       refine⟨by rw [k1];simp [GB];omega,_,_,rfl,by omega,by omega,?_⟩
       by_cases hz:hh.toNat-l.toNat=0
       ·exact .inl hz
       ·right
        refine⟨b,by rw [k1];rfl,?_⟩
        rw [if_neg (by omega),Option.map_some,K9,hs,C5]
     ·cases h
    ·cases hc2
   ·cases h
  ·cases h
end
end Go.AE
namespace Go.AE
open Go.RowKit
section
variable {u:Nat→Option Obj} {p q:Nat→Prop} {g:G} {st:St} {h h':Nat→Option Ob} {a:Act} {w w':World} {P:Program} {o:Oper} {R:Type} {K:V→St→Option R} {r:R}
theorem beq_iff {x y:Nat}:Nat.beq x y=true↔x=y:=⟨B0,fun e=>by subst e;exact Nat.beq_refl x⟩
theorem Q8 (st:St)(o:Nat)(ob:Option Ob)(x:Nat):(st.dG o ob).h x=if x=o then ob else st.h x:=by
 simp only [St.dG]
 by_cases e:x=o
 ·rw [if_pos e,beq_iff.2 e];rfl
 ·rw [if_neg e]
  cases k:Nat.beq x o with
  |true=>exact absurd (beq_iff.1 k) e
  |false=>rfl
theorem FM {x:V}{v:Value}(hc:jM x=true)(hv:VV g x v):v.oneCell'=true:=by
 match x,hc,hv with
 | .d (.bool _),_,hv=>have hv:v=_:=hv;subst hv;rfl
 | .d (.int _ _),_,hv=>have hv:v=_:=hv;subst hv;rfl
 | .d (.str _),_,hv=>obtain⟨b,rfl,_⟩:=hv;rfl
 | .d (.Z _ _),_,hv=>obtain⟨A,cap,rfl,_⟩:=hv;rfl
 | .d (.nils _ _),_,hv=>have hv:v=_:=hv;subst hv;rfl
 | .d (.fn _),_,hv=>have hv:v=_:=hv;subst hv;rfl
 | .d .nilp,_,hv=>have hv:v=_:=hv;subst hv;rfl
 | .d .nilf,_,hv=>have hv:v=_:=hv;subst hv;rfl
 | .d .nilm,_,hv=>have hv:v=_:=hv;subst hv;rfl
 | .d .nili,_,hv=>have hv:v=_:=hv;subst hv;rfl
 | .d .ub,_,hv=>obtain⟨_,rfl⟩:=hv;rfl
 | .d (.iface _ _),_,hv=>obtain⟨_,rfl,_⟩:=hv;rfl
 | .d (.meth ..),_,hv=>obtain⟨_,rfl,_⟩:=hv;rfl
 | .ptr _ _,_,hv=>have hv:v=_:=hv;subst hv;rfl
 | .el ..,_,hv=>obtain⟨_,_,_,rfl⟩:=hv;rfl
 | .rp ..,_,hv=>obtain⟨_,_,_,rfl⟩:=hv;rfl
 | .sub ..,_,hv=>obtain⟨_,_,_,rfl,_⟩:=hv;rfl
 | .fn _ [],_,hv=>have hv:v=_:=hv;subst hv;rfl
 | .fn _ (_::_),_,hv=>obtain⟨_,rfl,_⟩:=hv;rfl
 | .row ro,_,hv=>exact hv.2
 | .mp _,_,hv=>have hv:v=_:=hv;subst hv;rfl
 | .bp ..,_,hv=>rcases (hv:v=_∨v=_) with rfl|rfl<;>rfl
theorem oQ {x:V}{v:Value}(hc:dQ x=true)(hv:VV g x v)(hx:x.T0 p) :
  F2 (VA g) x.cells v.cells.toList∧(∀ y∈v.cells.toList,y.oneCell'=true)∧(∀ c∈x.cells,c.V7 p):=by
 have one:∀ (cs:List V) (us:List Value),F2 (VA g) cs us→cs.all jM=true→∀ y∈us,y.oneCell'=true:=by
  intro cs us hF
  induction hF with
  |nil=>intro _ y hy;cases hy
  |cons h1 _ ih=>
   intro hall y hy
   simp only [List.all_cons,A9] at hall
   rcases B7.1 hy with rfl|hy
   ·exact FM hall.1 (eF h1)
   ·exact ih hall.2 y hy
 have single:x.cells=[x]→jM x=true→VA g x v→x.V7 p→F2 (VA g) x.cells v.cells.toList∧(∀ y∈v.cells.toList,y.oneCell'=true)∧(∀ c∈x.cells,c.V7 p):=by
  intro e h1 h2 h3
  have h4:=FM h1 hv
  rw [e,yR h4]
  refine⟨.cons h2 .nil,?_,?_⟩
  ·intro y hy;simp at hy;subst hy;exact h4
  ·intro c hc;simp at hc;subst hc;exact h3
 have all1:x.cells=[x]→jM x=true:=by intro e;unfold dQ at hc;rw [e] at hc;simpa using hc
 match x,hc,hv,hx,one,single,all1 with
 | .d (.agg cs),hc,hv,_,one,_,_=>
  obtain⟨us,rfl,h1⟩:=hv
  have hF:F2 (VA g) (cs.map V.d) us.toList:=F2.ED (((jG _ _ _).1 h1).mono fun c _ b hb=>hb)
  exact⟨hF,one _ _ hF hc,fun c hc=>by obtain⟨d,_,rfl⟩:=List.mem_map.1 hc;trivial⟩
 | .agg cs,hc,hv,hx,one,_,_=>
  obtain⟨us,rfl,h1⟩:=Ac hv
  have hF:F2 (VA g) cs us.toList:=h1.mono fun c _ b hb=>jF hb
  exact⟨hF,one _ _ hF hc,fun c hcm=>by obtain⟨b,_,hb⟩:=h1.mem c hcm;exact lZ hb (hx c hcm)⟩
 | .tup vs,_,hv,_,_,_,all1=>have:=all1 rfl;simp [jM] at this
 | .d .top,_,hv,_,_,single,all1=>exact single rfl (all1 rfl) hv trivial
 | .d .und,_,hv,_,_,single,all1=>exact single rfl (all1 rfl) hv trivial
 | .d (.bool _),_,hv,_,_,single,all1=>exact single rfl (all1 rfl) hv trivial
 | .d (.int _ _),_,hv,_,_,single,all1=>exact single rfl (all1 rfl) hv trivial
 | .d (.str _),_,hv,_,_,single,all1=>exact single rfl (all1 rfl) hv trivial
 | .d (.Z _ _),_,hv,_,_,single,all1=>exact single rfl (all1 rfl) hv trivial
 | .d (.nils _ _),_,hv,_,_,single,all1=>exact single rfl (all1 rfl) hv trivial
 | .d (.fn _),_,hv,_,_,single,all1=>exact single rfl (all1 rfl) hv trivial
 | .d .nilp,_,hv,_,_,single,all1=>exact single rfl (all1 rfl) hv trivial
 | .d .nilf,_,hv,_,_,single,all1=>exact single rfl (all1 rfl) hv trivial
 | .d .nilm,_,hv,_,_,single,all1=>exact single rfl (all1 rfl) hv trivial
 | .d .nili,_,hv,_,_,single,all1=>exact single rfl (all1 rfl) hv trivial
 | .d .ub,_,hv,_,_,single,all1=>exact single rfl (all1 rfl) hv trivial
 | .d (.iface _ _),_,hv,_,_,single,all1=>exact single rfl (all1 rfl) hv trivial
 | .d (.meth ..),_,hv,_,_,single,all1=>exact single rfl (all1 rfl) hv trivial
 | .ptr _ _,_,hv,hx,_,single,all1=>exact single rfl (all1 rfl) hv hx
 | .el ..,_,hv,hx,_,single,all1=>exact single rfl (all1 rfl) hv trivial
 | .rp ..,_,hv,hx,_,single,all1=>exact single rfl (all1 rfl) hv hx
 | .row _,_,hv,hx,_,single,all1=>exact single rfl (all1 rfl) hv hx
 | .mp _,_,hv,hx,_,single,all1=>exact single rfl (all1 rfl) hv hx
 | .sub ..,_,hv,hx,_,single,all1=>exact single rfl (all1 rfl) hv hx
 | .fn _ [],_,hv,hx,_,single,all1=>exact single rfl (all1 rfl) hv hx
 | .fn _ (_::_),_,hv,hx,_,single,all1=>exact single rfl (all1 rfl) hv hx
theorem IQ (S:P3 u p g h w)(hpq:∀ x,p x→q x){no:Nat}(hnp:¬ p no)(hqo:q no){cs:List V}{us:Array Value}{e:TypeId}(hF:F2 (fun c v=>(c.V7 p∧VA g c v)∨(∃ t f,c = .bp t no f∧v = .pointer none)) cs us.toList)
  (h1:∀ y∈us.toList,y.oneCell'=true) (hbp:∀ t o' f,V.bp t o' f∈cs→e=t) (hh:∀ x,h' x=if x=no then some (.var cs) else h x) :
  ∃ g',L8 p g g'∧g'.h=g.h∧g'.hdr=g.hdr∧g'.blk no=w.heap.size∧P3 u q g' h' (w.alloc (.cells us e)):=by
 have ha:L8 p g ⟨g.h,fun x=>if x=no then w.heap.size else g.blk x,g.hdr⟩:=⟨fun _ _ h=>h,fun x hx=>by
  have:x≠no:=fun e=>hnp (e▸hx)
  simp [this],fun _ _=>rfl⟩
 refine⟨_,ha,rfl,rfl,by simp,?_⟩
 refine S.update ha rfl none (fun k hk _=>heap_alloc_old w _ hk) (fun b hb=>by cases hb) hpq no ?_ ?_
 ·intro o' x hx hne
  rw [hh,if_neg hne] at hx
  exact⟨hx,fun b _ e=>by cases e⟩
 ·intro x hx
  rw [hh,if_pos rfl] at hx
  simp only [B1] at hx
  subst hx
  refine⟨⟨us,e,?_,hF.mono fun c hc b hb=>?_,h1,hbp⟩,?_,hqo,fun c hc=>?_⟩
  ·simp only [if_true];exact heap_alloc_new w _
  ·rcases hb with ⟨hu,hb⟩|⟨t,f,rfl,rfl⟩
   ·exact VA.agree ha hu hb
   ·exact (Or.inl rfl:VL _ (.bp t no f) _)
  ·intro b hb
   simp only [jY,if_true,B1] at hb
   exact .inr (by omega)
  ·have:∀ {cs:List V} {us:List Value},F2 (fun c v=>(c.V7 p∧VA g c v)∨(∃ t f,c = .bp t no f∧v = .pointer none)) cs us→∀ c∈cs,c.V7 q:=by
    intro cs us h
    induction h with
    |nil=>intro c hc;cases hc
    |cons hr _ ih=>
     intro c hc
     rcases B7.1 hc with rfl|hc
     ·rcases hr with ⟨hu,_⟩|⟨t,f,rfl,_⟩
      ·exact hu.mono hpq
      ·exact hqo
     ·exact ih c hc
   exact this hF c hc
theorem MY (S:P3 u p g h w)(hpq:∀ x,p x→q x){no:Nat}(hnp:¬ p no)(hqo:q no){cs:List V}{us:Array Value}{e:TypeId}(hF:F2 (VA g) cs us.toList)
  (h1:∀ y∈us.toList,y.oneCell'=true) (hu:∀ c∈cs,c.V7 p) (hbp:∀ t o' f,V.bp t o' f∈cs→e=t) (hh:∀ x,h' x=if x=no then some (.var cs) else h x) :
  ∃ g',L8 p g g'∧g'.h=g.h∧g'.hdr=g.hdr∧g'.blk no=w.heap.size∧P3 u q g' h' (w.alloc (.cells us e)):=
 IQ S hpq hnp hqo (hF.mono fun c hc _ hb=> .inl ⟨hu c hc,hb⟩) h1 hbp hh
theorem uO {vv:V}(h:dQ vv=true){t o f:Nat}:V.bp t o f∉vv.cells:=fun hm=>by
 have:=B6.1 h _ hm
 simp [jM] at this
theorem F2.Ve {α β:Type}{R:α→β→Prop}{zs:List α}{bs:List β}(h:F2 R zs bs):∀ {j:Nat} {a:α} {b:β},bs[j]? = some b→R a b→F2 R (zs.set j a) bs:=by
 induction h with
 |nil=>intro j a b hb;simp at hb
 |cons hr hs ih=>
  intro j a b hb ha
  cases j with
  |zero=>simp at hb;subst hb;exact .cons ha hs
  |succ j=>exact .cons hr (ih (by simpa using hb) ha)
theorem gB (S:P3 u p g h w)(hpq:∀ x,p x→q x){no:Nat}(hnp:¬ p no)(hqo:q no){e sz:Nat}{xs:List D}{v:Value}{us:List Value}{row:Option Nat}
  (hg:w.grownBy w' row) (hown:w'.ownsRow 0 e sz v xs.length us) (hsz:0<sz) (hf:mY g.h sz xs us) (hrow:∀ b,row=some b→g.h b=none∧u b=none)
  (hblk:∀ b,v.ownBlock=some b→some b=row∨w.heap.size≤b)
  (hoth:∀ o' x,h' o'=some x→o'≠no→h o'=some x∧∀ b,jY g o' x=some b→some b≠row) (ho:h' no=some (.row e sz xs false)) :
  ∃ g',L8 p g g'∧g'.h=g.h∧g'.blk=g.blk∧g'.hdr no=v∧P3 u q g' h' w':=by
 have ha:L8 p g ⟨g.h,g.blk,fun x=>if x=no then v else g.hdr x⟩:=⟨fun _ _ h=>h,fun _ _=>rfl,fun x hx=>by
  have:x≠no:=fun e=>hnp (e▸hx)
  simp [this]⟩
 refine⟨_,ha,rfl,rfl,by simp,?_⟩
 refine S.update ha rfl row hg.block hrow hpq no hoth ?_
 intro x hx
 rw [ho] at hx
 simp only [B1] at hx
 subst hx
 refine⟨⟨us,hsz,by simpa using hown,hf⟩,?_,hqo,trivial⟩
 intro b hb
 simp only [jY,if_true] at hb
 exact hblk b hb
theorem yV {g':G}{row:Option Nat}(hg:w.grownBy w' row)(ha:L8 p g g'):Ext g w g' w':=⟨ha.h,hg.os,hg.tape,hg.output,hg.size⟩
theorem nO {g':G}{x:Obj}(ha:L8 p g g'):Ext g w g' (w.alloc x):=⟨ha.h,rfl,rfl,rfl,by simp⟩
theorem qV (w:World)(row:Option Nat):w.grownBy w row:=⟨rfl,rfl,rfl,B9 _,fun _ _ _=>rfl⟩
def iY (p q:Nat→Prop)(nid:Nat):Prop:=∀ k,k<32→¬ p (nid+k)∧q (nid+k)
theorem iY.zero {nid:Nat}(h:iY p q nid):¬ p nid∧q nid:=h 0 (by omega)
theorem UW {K:V→St→Option R}(S:P3 u p g st.h w)(hpq:∀ x,p x→q x){no:Nat}(hnp:¬ p no)(hqo:q no){t:TypeId}{vv:V}{v:Value}(hv:VV g vv v)(hu:vv.T0 p)
  (h:BV P t no vv st K=some r) :
  ∃ g' vv' st',K vv' st'=some r∧P3 u q g' st'.h w∧L8 p g g'∧g'.h=g.h∧g'.blk=g.blk∧VV g' vv' v∧vv'.T0 q∧st'.t=st.t∧st'.m=st.m∧
   (∀ x,x≠no→st'.h x=st.h x)∧(dQ vv=true→dQ vv'=true)∧(jM vv=true→jM vv'=true)∧(jM vv=true→vv'.V7 q∧VA g' vv' v):=by
 unfold BV at h
 split at h
 ·rename_i x y
  split at h
  ·rename_i e he
   obtain⟨hsz,h⟩:=H8 h
   have hsz:0<L6 P e:=by have h1:Nat.ble 1 (L6 P e)=true:=hsz;exact B3 h1
   have hv:v = .slice none 0 0:=hv
   subst hv
   obtain⟨g',a1,a2,a3,a4,a5⟩:=gB (h':=(newRow st no e (L6 P e) []).h) S hpq hnp hqo (e:=e) (sz:=L6 P e) (xs:=[]) (v:= .slice none 0 0) (us:=[]) (row:=none) (qV w none) (World.ownsRow_nil w 0 e (L6 P e)) hsz rfl
    (fun b hb=>by cases hb) (fun b hb=>by cases hb) (fun o' x hx hne=>by rw [newRow,Q8,if_neg hne] at hx;exact⟨hx,fun _ _ e=>by cases e⟩) (by rw [newRow,Q8,if_pos rfl])
   have hV:VL g' (.row no) (.slice none 0 0):=⟨a4.symm,rfl⟩
   refine⟨g',.row no,_,h,a5,a1,a2,a3,hV,hqo,rfl,rfl,?_,fun _=>rfl,fun _=>rfl,fun _=>⟨hqo,hV⟩⟩
   intro x hne
   rw [newRow,Q8,if_neg hne]
  ·cases h
 ·refine⟨g,vv,st,h,S.more hpq,L8.refl p g,rfl,rfl,hv,hu.mono hpq,rfl,rfl,fun _ _=>rfl,id,id,?_⟩
  intro hc
  match vv,hc,hv,hu with
  | .d (.agg _),hc,_,_=>simp [jM] at hc
  | .agg _,hc,_,_=>simp [jM] at hc
  | .tup _,hc,_,_=>simp [jM] at hc
  | .d _,_,hv,_=>exact⟨trivial,hv⟩
  | .ptr ..,_,hv,hu=>exact⟨hpq _ hu,hv⟩
  | .el ..,_,hv,hu=>exact⟨trivial,hv⟩
  | .rp ..,_,hv,hu=>exact⟨hpq _ hu,hv⟩
  | .row _,_,hv,hu=>exact⟨hpq _ hu,hv⟩
  | .mp _,_,hv,hu=>exact⟨hpq _ hu,hv⟩
  | .bp ..,hc,_,_=>simp [jM] at hc
  | .sub ..,_,hv,hu=>exact⟨hpq _ hu,hv⟩
  | .fn _ [],_,hv,hu=>exact⟨V.V7.mono hpq (x:= .fn _ []) hu,hv⟩
  | .fn _ (_::_),_,hv,hu=>exact⟨V.V7.mono hpq (x:= .fn _ (_::_)) hu,hv⟩
theorem Goal.res {vv:V}{st':St}{v:Value}{g':G}(hk:K vv st'=some r)(hr:(execOp a.eval o).run P w = .ok (.value v) w')(hs:P3 u q g' st'.h w')(ha:L8 p g g')(he:Ext g w g' w')(hv:VV g' vv v)(hu:vv.T0 q)(ht:st'.t=st.t)(hn:st'.m=st.m) :
  Goal u p q g st a w P o K r:=⟨vv,st',hk,.inl ⟨v,w',hr,g',hs,ha,he,hv,hu,ht,hn⟩⟩
theorem Goal.skip {st':St}{g':G}(hk:K .top st'=some r)(hr:(execOp a.eval o).run P w = .ok .skip w')(hs:P3 u q g' st'.h w')(ha:L8 p g g')(he:Ext g w g' w')(ht:st'.t=st.t)(hn:st'.m=st.m) :
  Goal u p q g st a w P o K r:=⟨.top,st',hk,.inr (.inl ⟨w',hr,g',hs,ha,he,(trivial:VD g'.h .top _),trivial,ht,hn⟩)⟩
theorem Hh (S:At u p g st a w)(hpq:∀ x,p x→q x){nid:Nat}(hfr:iY p q nid){x:Operand}(ho:o.op = .assign x)
  (h:(force (K2 st x) fun v=>match v with
  | .d (.nils _ _)=>bif eJ P o.type then BV P o.type nid v st K else K v st
  |v=>K v st)=some r):Goal u p q g st a w P o K r:=by
 rw [nQ] at h
 have plain:K (K2 st x) st=some r→Goal u p q g st a w P o K r:=fun h=>⟨_,_,h,Dz S hpq (.inr ho)⟩
 split at h
 ·rename_i e sz he
  cases hs:eJ P o.type with
  |false=>rw [hs] at h;exact plain h
  |true=>
   rw [hs] at h
   simp only [cond_true] at h
   obtain⟨g',vv',st',k1,k2,k3,k4,_,k5,k6,k7,k8,_⟩:=UW S.hp hpq hfr.zero.1 hfr.zero.2 (S.ev x) (S.Z7 x) h
   exact Goal.res k1 (v:=a.eval x) (w':=w) (by simp [execOp,ho]) k2 k3 ⟨k3.h,rfl,rfl,rfl,B9 _⟩ k5 k6 k7 k8
 ·exact plain h
theorem JF {hh:Nat→Option Obj}{t:TypeId}{x:D}{v:Value}(h:VD hh x v):VD hh (zeroCell P t x) v:=by
 unfold zeroCell
 split
 ·split
  ·exact h
  ·exact h
 ·exact h
theorem FC {hh:Nat→Option Obj}:∀ {ts:List TypeId} {xs:List D} {us:List Value},vW hh xs us→vW hh (zeroCells P ts xs) us
 |[],xs,us,h=>by cases xs<;>exact h
 |t::ts,[],us,h=>h
 |t::ts,x::xs,us,h=>by
  obtain⟨v,r,rfl,h1,h2⟩:=h
  exact⟨v,r,rfl,JF h1,FC h2⟩
theorem CJ {t:TypeId}{z:D}(h:OM P t=some z):∃ i zv,P.info? t=some i∧i.zero=some zv∧∀ hh,VD hh z zv:=by
 unfold OM at h
 split at h
 ·rename_i i hi
  split at h
  ·rename_i zv hz
   refine⟨i,zv,hi,hz,fun hh=>?_⟩
   have hc:=DE hh zv
   split at h
   ·rename_i cs hcs
    rw [hcs] at hc
    simp only [B1] at h
    subst h
    obtain⟨us,rfl,h1⟩:=hc
    exact⟨us,rfl,FC h1⟩
   ·simp only [B1] at h
    subst h
    exact JF hc
  ·cases h
 ·cases h
theorem mkVar (S:At u p g st a w)(hpq:∀ x,p x→q x){nid:Nat}(hfr:iY p q nid){t:TypeId}{vv:V}{v:Value}(hok:dQ vv=true)(hv:VV g vv v)(hu:vv.T0 p)
  (hrun:(execOp a.eval o).run P w = .ok (.value (.pointer (some ⟨w.heap.size,0,none⟩))) (w.alloc (.cells v.cells t)))
  (h:K (.ptr nid 0) (newVar st nid vv.cells)=some r):Goal u p q g st a w P o K r:=by
 obtain⟨c1,c2,c3⟩:=oQ hok hv hu
 obtain⟨g',a1,a2,a3,a4,a5⟩:=MY (h':=(newVar st nid vv.cells).h) (e:=t) S.hp hpq hfr.zero.1 hfr.zero.2 c1 c2 c3 (fun t o' f hm=>absurd hm (uO hok)) (fun x=>by rw [newVar,Q8])
 exact Goal.res h hrun a5 a1 (nO a1) (by show _=_;rw [show g'.blk nid=w.heap.size from a4]) hfr.zero.2 rfl rfl
theorem YD (S:At u p g st a w)(hpq:∀ x,p x→q x){nid:Nat}(hfr:iY p q nid){t t':TypeId}{vv:V}{v:Value}(hok:dQ vv=true)(hv:VV g vv v)(hu:vv.T0 p)
  (hrun:(execOp a.eval o).run P w = .ok (.value (.pointer (some ⟨w.heap.size,0,none⟩))) (w.alloc (.cells v.cells t')))
  (h:(BV P t (nid+1) vv st fun v st=>K (.ptr nid 0) (newVar st nid v.cells))=some r):Goal u p q g st a w P o K r:=by
 obtain⟨g1,vv1,st1,k1,k2,k3,k4,k5,k6,k7,k8,k9,k10,k11,_⟩:=UW (q:=fun x=>p x∨x=nid+1) S.hp (fun x hx=> .inl hx) (hfr 1 (by omega)).1 (.inr rfl) hv hu h
 have hpq1:∀ x,(p x∨x=nid+1)→q x:=by
  intro x hx
  rcases hx with hx|rfl
  ·exact hpq x hx
  ·exact (hfr 1 (by omega)).2
 obtain⟨c1,c2,c3⟩:=oQ (k11 hok) k6 k7
 obtain⟨g',a1,a2,a3,a4,a5⟩:=MY (h':=(newVar st1 nid vv1.cells).h) (e:=t') (no:=nid) k2 hpq1 (by intro e;rcases e with e|e;exact hfr.zero.1 e;omega) hfr.zero.2 c1 c2 c3 (fun t o' f hm=>absurd hm (uO (k11 hok))) (fun x=>by rw [newVar,Q8])
 have ha:L8 p g g':=⟨fun b x e=>a1.h b x (k3.h b x e),fun x hx=>(a1.blk x (.inl hx)).trans (k3.blk x hx),fun x hx=>(a1.hdr x (.inl hx)).trans (k3.hdr x hx)⟩
 exact Goal.res k1 hrun a5 ha (nO ha) (by show _=_;rw [a4]) hfr.zero.2 k8 k9
theorem Lf {c:oA}(S:At u p g st a w)(hpq:∀ x,p x→q x){nid:Nat}(hfr:iY p q nid){t:TypeId}{vv:V}{v:Value}(hok:dQ vv=true)(hv:VV g vv v)(hu:vv.T0 p)
  (hrun:(execOp a.eval o).run P w = .ok (.value (.pointer (some ⟨w.heap.size,0,none⟩))) (w.alloc (.cells v.cells t)))
  (h:KQ c t nid vv.cells st K=some r):Goal u p q g st a w P o K r:=by
 unfold KQ at h
 split at h
 ·rename_i cs' h' hb
  unfold KP at hb
  split at hb
  ·simp only [B1,C7] at hb
   obtain⟨rfl,rfl⟩:=hb
   exact mkVar S hpq hfr hok hv hu hrun h
  ·rename_i off hoff
   split at hb
   ·rename_i e sz e1 e2
    obtain⟨hsz,hb⟩:=H8 hb
    have hsz:0<sz:=by have h1:Nat.ble 1 sz=true:=hsz;exact B3 h1
    simp only [B1,C7] at hb
    obtain⟨rfl,rfl⟩:=hb
    obtain⟨c1,c2,c3⟩:=oQ hok hv hu
    obtain⟨b0,hb0,hr0⟩:=c1.get off _ e1
    obtain⟨b1,hb1,hr1⟩:=c1.get (off+1) _ e2
    have hr0:b0 = .pointer none:=hr0
    have hr1:b1 = .slice none 0 0:=hr1
    subst hr0
    subst hr1
    have hpq1:∀ x,(p x∨x=nid+1)→q x:=by
     intro x hx
     rcases hx with hx|rfl
     ·exact hpq x hx
     ·exact (hfr 1 (by omega)).2
    obtain⟨g1,a1,a2,a3,a4,a5⟩:=gB (q:=fun x=>p x∨x=nid+1) (h':=fun x=>bif Nat.beq x (nid+1) then some (.row e sz [] false) else st.h x) S.hp (fun x hx=> .inl hx) (no:=nid+1) (hfr 1 (by omega)).1 (.inr rfl) (e:=e) (sz:=sz) (xs:=[]) (v:= .slice none 0 0) (us:=[]) (row:=none) (qV w none) (World.ownsRow_nil w 0 e sz) hsz rfl
     (fun b hb=>by cases hb) (fun b hb=>by cases hb) (fun o' x hx hne=>by
      have hn:Nat.beq o' (nid+1)=false:=by rw [← Bool.not_eq_true];intro hc;exact hne (B0 hc)
      simp only [hn,cond_false] at hx
      exact⟨hx,fun _ _ e=>by cases e⟩) (by simp [Nat.beq_refl])
    have F0:F2 (fun c v=>(c.V7 (fun x=>p x∨x=nid+1)∧VA g1 c v)∨(∃ t f,c = .bp t nid f∧v = .pointer none)) vv.cells v.cells.toList:=
     c1.mono fun c hc b hb=> .inl ⟨(c3 c hc).mono fun x hx=> .inl hx,VA.agree a1 (c3 c hc) hb⟩
    have F1:=F0.Ve (a:= .bp t nid off) hb0 (.inr ⟨t,off,rfl,rfl⟩)
    have F2':=F1.Ve (a:= .row (nid+1)) hb1 (.inl ⟨.inr rfl,(⟨a4.symm,rfl⟩:VL g1 (.row (nid+1)) _)⟩)
    obtain⟨g',d1,d2,d3,d4,d5⟩:=IQ (h':=(newVar { st with h:=fun x=>bif Nat.beq x (nid+1) then some (.row e sz [] false) else st.h x } nid ((vv.cells.set off (.bp t nid off)).set (off+1) (.row (nid+1)))).h) (e:=t) (no:=nid) a5 hpq1 (by intro e;rcases e with e|e;exact hfr.zero.1 e;omega) hfr.zero.2 F2' c2
     (fun t' o' f hm=>by
      rcases List.mem_or_eq_of_mem_set hm with hm|hm
      ·rcases List.mem_or_eq_of_mem_set hm with hm|hm
       ·exact absurd hm (uO hok)
       ·cases hm;rfl
      ·cases hm) (fun x=>by rw [newVar,Q8])
    have ha:L8 p g g':=⟨fun b x e=>d1.h b x (a1.h b x e),fun x hx=>(d1.blk x (.inl hx)).trans (a1.blk x hx),fun x hx=>(d1.hdr x (.inl hx)).trans (a1.hdr x hx)⟩
    exact Goal.res h hrun d5 ha (nO ha) (by show _=_;rw [d4]) hfr.zero.2 rfl rfl
   ·cases hb
 ·cases h
theorem Ln {c:oA}(S:At u p g st a w)(hpq:∀ x,p x→q x){nid:Nat}(hfr:iY p q nid){t:TypeId}(ho:o.op = .alloc t)
  (h:(match OM P t with
  |some z=>bif dQ (.d z) then (bif eJ P t then BV P t (nid+1) (.d z) st fun v st=>K (.ptr nid 0) (newVar st nid v.cells) else KQ c t nid (V.d z).cells st K) else none
  |none=>none)=some r):Goal u p q g st a w P o K r:=by
 split at h
 ·rename_i z hz
  obtain⟨i,zv,hi,hzv,hV⟩:=CJ hz
  obtain⟨hok,h⟩:=H8 h
  have hrun:(execOp a.eval o).run P w = .ok (.value (.pointer (some ⟨w.heap.size,0,none⟩))) (w.alloc (.cells zv.cells t)):=by
   simp [execOp,ho,Instr.alloc,zeroValue,typeInfo,hi,hzv,Go.newVar,Go.newRow]
  cases hs:eJ P t with
  |true=>rw [hs] at h;exact YD S hpq hfr hok (hV _) trivial hrun h
  |false=>rw [hs] at h;exact Lf (vv:= .d z) S hpq hfr hok (hV _) trivial hrun h
 ·cases h
theorem Te {c:oA}(S:At u p g st a w)(hpq:∀ x,p x→q x){nid:Nat}(hfr:iY p q nid){t:TypeId}{x:Operand}(ho:o.op = .box t x)
  (h:(bif !(dQ (K2 st x)) then none else bif eJ P t then BV P t (nid+1) (K2 st x) st fun v st=>K (.ptr nid 0) (newVar st nid v.cells)
   else bif Nat.beq (K2 st x).cells.length (L6 P t) then KQ c t nid (K2 st x).cells st K else none)=some r):Goal u p q g st a w P o K r:=by
 obtain⟨hok,h⟩:=K1 h
 rw [Bool.not_eq_false'] at hok
 have hrun:(execOp a.eval o).run P w = .ok (.value (.pointer (some ⟨w.heap.size,0,none⟩))) (w.alloc (.cells (a.eval x).cells t)):=by
  simp [execOp,ho,Instr.box,Go.newVar,Go.newRow]
 cases hs:eJ P t with
 |true=>rw [hs] at h;exact YD S hpq hfr hok (S.ev x) (S.Z7 x) hrun h
 |false=>
  rw [hs] at h
  simp only [cond_false] at h
  obtain⟨_,h⟩:=H8 h
  exact Lf S hpq hfr hok (S.ev x) (S.Z7 x) hrun h
theorem IG:∀ (vs:List Value) (k off:Nat) (cs:Array Value),((vs.zipIdx k).foldl (fun cs (x:Value×Nat)=>cs.setIfInBounds (off+x.2) x.1) cs).toList=setAt cs.toList (off+k) vs
 |[],k,off,cs=>by simp [setAt]
 |v::vs,k,off,cs=>by
  simp only [List.zipIdx_cons,List.foldl_cons]
  rw [IG vs (k+1) off]
  simp only [setAt,Array.toList_setIfInBounds,Nat.add_assoc]
theorem LY (vs:Array Value)(off:Nat)(cs:Array Value):(vs.zipIdx.foldl (fun cs (x:Value×Nat)=>cs.setIfInBounds (off+x.2) x.1) cs).toList=setAt cs.toList off vs.toList:=by
 rw [← Array.foldl_toList]
 have:=IG vs.toList 0 off cs
 simpa using this
theorem pZ {α:Type}:∀ (ys xs:List α) (off:Nat),(setAt xs off ys).length=xs.length
 |[],xs,off=>rfl
 |y::ys,xs,off=>by simp only [setAt];rw [pZ ys];simp
theorem F2.setAt {α β:Type}{R:α→β→Prop}{xs:List α}{ys:List β}(h2:F2 R xs ys):∀ {zs:List α} {bs:List β} (off:Nat),F2 R zs bs→F2 R (AE.setAt zs off xs) (AE.setAt bs off ys):=by
 induction h2 with
 |nil=>intro zs bs off h;exact h
 |cons hr _ ih=>
  intro zs bs off h
  exact ih (off+1) (h.set hr off)
theorem jX {α:Type}:∀ (ys xs:List α) (off:Nat) (x:α),x∈setAt xs off ys→x∈xs∨x∈ys
 |[],xs,off,x,h=> .inl h
 |y::ys,xs,off,x,h=>by
  rcases jX ys _ _ _ h with h|h
  ·rcases List.mem_or_eq_of_mem_set h with h|rfl
   ·exact .inl h
   ·exact .inr (by simp)
  ·exact .inr (by simp [h])
theorem RM:∀ (fs:List Field),(fs.all fun f=>(P.info? f.type).isSome)=true→∃ places,fs.mapM (fun f=>(P.info? f.type).map fun i=>(f.offset,i.size))=some places∧
  ∀ (k:Nat) (f:Field),fs[k]? = some f→places[k]? = some (f.offset,L6 P f.type)
 |[],_=>⟨[],rfl,fun k f h=>by simp at h⟩
 |f::fs,h=>by
  simp only [List.all_cons,A9] at h
  obtain⟨places,h1,h2⟩:=RM fs h.2
  cases hi:P.info? f.type with
  |none=>rw [hi] at h;simp at h
  |some i=>
   refine⟨(f.offset,i.size)::places,by simp [List.mapM_cons,hi,h1],fun k f' hk=>?_⟩
   cases k with
   |zero=>simp at hk;subst hk;simp [L6,hi]
   |succ k=>simpa using h2 k f' (by simpa using hk)
theorem Dn (S:At u p g st a w){t:TypeId}{fs:Array Field}(ht:P.underlying t=some (.struct fs)){places:List (Nat×Nat)}(hp:∀ (k:Nat) (f:Field),fs.toList[k]? = some f→places[k]? = some (f.offset,L6 P f.type)) :
  ∀ (ps:List (Nat×Operand)) (cs cs':List V) (us:Array Value),F2 (VA g) cs us.toList→(∀ c∈cs,c.V7 p)→nH P t (K2 st) cs ps=some cs'→
   ∃ us',Instr.fill (fun k=>places.toArray[k]?) us (ps.map fun x=>(x.1,a.eval x.2))=some us'∧F2 (VA g) cs' us'.toList∧∀ c∈cs',c.V7 p
 |[],cs,cs',us,hF,hu,h=>by
  simp only [nH,B1] at h
  subst h
  exact⟨us,rfl,hF,hu⟩
 |(k,x)::ps,cs,cs',us,hF,hu,h=>by
  simp only [nH] at h
  split at h
  ·rename_i off ft hft
   replace h:=H8 h
   obtain⟨hc,h⟩:=h
   simp only [A9] at hc
   obtain⟨⟨hok,hsz⟩,hle⟩:=hc
   have hsz:(K2 st x).cells.length=L6 P ft:=B0 hsz
   have hle:off+L6 P ft≤cs.length:=B3 hle
   obtain⟨fs',f,hu',hfk,rfl,rfl⟩:=xE hft
   rw [ht] at hu'
   cases hu'
   obtain⟨c1,c2,c3⟩:=oQ hok (S.ev x) (S.Z7 x)
   have hl1:=c1.length
   have hl2:=hF.length
   simp only [E2] at hl1 hl2
   have hpl:=hp k f (by rw [D0];exact hfk)
   have e1:¬ ((a.eval x).cells.size≠L6 P f.type∨f.offset+(a.eval x).cells.size>us.size):=by omega
   have hF':F2 (VA g) (setAt cs f.offset (K2 st x).cells) ((a.eval x).cells.zipIdx.foldl (fun cs (x:Value×Nat)=>cs.setIfInBounds (f.offset+x.2) x.1) us).toList:=by
    rw [LY];exact c1.setAt _ hF
   obtain⟨us',k1,k2,k3⟩:=Dn S ht hp ps _ cs' _ hF' (fun c hc=>by
    rcases jX _ _ _ _ hc with hc|hc
    ·exact hu c hc
    ·exact c3 c hc) h
   refine⟨us',?_,k2,k3⟩
   simp only [List.map_cons,Instr.fill,List.getElem?_toArray,hpl]
   rw [if_neg (by simpa using e1)]
   simpa using k1
  ·cases h
theorem Lp (S:At u p g st a w)(hpq:∀ x,p x→q x){t:TypeId}{ps:Array (Nat×Operand)}(ho:o.op = .build t ps)
  (h:(match OM P t with
  |some z=>bif !(dQ (.d z)&&LW P t) then none else (match nH P t (K2 st) (V.d z).cells ps.toList with
   |some cs=>K (gN cs) st
   |none=>none)
  |none=>none)=some r):Goal u p q g st a w P o K r:=by
 split at h
 ·rename_i z hz
  obtain⟨i,zv,hi,hzv,hV⟩:=CJ hz
  obtain⟨hok,h⟩:=K1 h
  rw [Bool.not_eq_false',A9] at hok
  have hfs:=hok.2
  unfold LW at hfs
  split at hfs
  ·rename_i fs hfs'
   obtain⟨places,hp1,hp2⟩:=RM fs.toList hfs
   split at h
   ·rename_i cs' hcs
    obtain⟨c1,_,c3⟩:=oQ (p:=p) hok.1 (show VV g (.d z) zv from hV _) trivial
    obtain⟨us',k1,k2,k3⟩:=Dn S hfs' hp2 ps.toList _ cs' zv.cells c1 c3 hcs
    refine Goal.val S hpq h (v:= .agg us') ?_ ?_ (cM (nV k3))
    ·have hb:P.built t (ps.map fun (i,x)=>(i,a.eval x)).toList=some us':=by
      unfold Program.built
      simp only [hi,hfs',hzv,hp1,Array.toList_map]
      exact k1
     simp only [execOp,ho]
     simp [run_build w t _ us' hb]
    ·have:=tN k2
     rw [Array.toArray_toList] at this
     exact eF this
   ·cases h
  ·cases hfs
 ·cases h
theorem EI {x:D}{v:Value}(h:Qa x=true)(hv:VD g.h x v):(∀ y∈v.cells.toList,y.oneCell'=true)∧v.cells.size=x.cells.length:=by
 have hok:dQ (.d x)=true:=by
  unfold dQ Qa at *
  cases x<;>first|(simpa [V.cells,D.cells,List.all_map] using h)
 obtain⟨c1,c2,_⟩:=oQ (p:=fun _=>True) hok (show VV g (.d x) v from hv) trivial
 refine⟨c2,?_⟩
 have:=c1.length
 simp only [E2] at this
 rw [← this]
 cases x<;>simp [V.cells,D.cells]
theorem Db {hh:Nat→Option Obj}{sz:Nat}:∀ {xs:List D} {us:List Value} {i:Nat} {x:D} {v:Value},mY hh sz xs us→i<xs.length→v.cells.size=sz→(∀ y∈v.cells.toList,y.oneCell'=true)→VD hh x v→
  mY hh sz (xs.set i x) (setAt us (i*sz) v.cells.toList)
 |[],us,i,x,v,_,hi,_,_,_=>by simp at hi
 |y::xs,us,0,x,v,h,_,hs,h1,hx=>by
  obtain⟨v',r,rfl,k1,k3,k4,k5⟩:=h
  refine⟨v,r,?_,hs,h1,hx,k5⟩
  have e:∀ (a b c:List Value) (pre:List Value),a.length=b.length→setAt (pre++(a++c)) pre.length b=pre++(b++c):=by
   intro a
   induction a with
   |nil=>intro b c pre hl;have:b=[]:=D1 hl.symm;subst this;rfl
   |cons a0 a ih=>
    intro b c pre hl
    cases b with
    |nil=>simp at hl
    |cons b0 b=>
     simp only [setAt]
     have e1:(pre++(a0::a++c)).set pre.length b0=(pre++[b0])++(a++c):=by simp
     rw [e1]
     have:=ih b c (pre++[b0]) (by simpa using hl)
     simp only [F7,C5] at this
     rw [this];simp
  have:=e v'.cells.toList v.cells.toList r [] (by simp [k1,hs])
  simpa using this
 |y::xs,us,i+1,x,v,h,hi,hs,h1,hx=>by
  obtain⟨v',r,rfl,k1,k3,k4,k5⟩:=h
  refine⟨v',setAt r (i*sz) v.cells.toList,?_,k1,k3,k4,Db k5 (by simpa using hi) hs h1 hx⟩
  have e:∀ (b pre c:List Value) (k:Nat),setAt (pre++c) (pre.length+k) b=pre++setAt c k b:=by
   intro b
   induction b with
   |nil=>intro pre c k;rfl
   |cons b0 b ih=>
    intro pre c k
    simp only [setAt]
    rw [List.set_append_right _ _ (by omega),show pre.length+k-pre.length=k from by omega,Nat.add_assoc,ih]
  have:=e v.cells.toList v'.cells.toList r (i*sz)
  rw [show v'.cells.toList.length+i*sz=(i+1)*sz from by rw [Nat.add_mul];simp [k1];omega] at this
  exact this
theorem oB {hh:Nat→Option Obj}{sz:Nat}{x:D}{v:Value}(hs:v.cells.size=sz)(h1:∀ y∈v.cells.toList,y.oneCell'=true)(hx:VD hh x v):∀ n:Nat,mY hh sz (List.replicate n x) (List.replicate n v.cells.toList).flatten
 |0=>rfl
 |n+1=>⟨v,_,by simp [List.replicate_succ],hs,h1,hx,oB hs h1 hx n⟩
theorem rC (z:Array Value)(hz:0<z.size)(n:Nat):(madeCells z (n*z.size)).toList=(List.replicate n z.toList).flatten:=by
 apply List.ext_getElem?
 intro j
 have hl:∀ n:Nat,(List.replicate n z.toList).flatten.length=n*z.size:=by intro n;simp
 have get:∀ (n j:Nat),j<n*z.size→(List.replicate n z.toList).flatten[j]? = z[j % z.size]?:=by
  intro n
  induction n with
  |zero=>intro j hj;omega
  |succ n ih=>
   intro j hj
   simp only [List.replicate_succ,List.flatten_cons]
   rcases Nat.lt_or_ge j z.size with hlt|hge
   ·rw [List.getElem?_append_left (by simpa using hlt),Nat.mod_eq_of_lt hlt,D0]
   ·rw [F3 (by simpa using hge),E2,ih (j-z.size) (by rw [Nat.add_mul] at hj;omega)]
    congr 1
    rw [← Nat.mod_eq_sub_mod hge]
 rcases Nat.lt_or_ge j (n*z.size) with hj|hj
 ·rw [get n j hj]
  have hm:j % z.size<z.size:=Nat.mod_lt _ hz
  simp [madeCells,hj,hm]
 ·rw [List.getElem?_eq_none (by simp [madeCells];exact hj),List.getElem?_eq_none (by rw [hl];exact hj)]
theorem CE {g':G}{x:V}{v:Value}{d:D}{fz os:List Nat}(hv:VV g x v)(hx:x.T0 p)(hd:Qv h x=some (d,fz))(hfz:∀ o∈fz,o∈os)
  (ha:L8 p g g') (hs:P3 u p g' (V4 h os) w):VD g'.h d v:=by
 match x,hv,hx,hd with
 | .tup _,_,_,hd=>simp [Qv,RB] at hd
 | .d x,hv,hx,hd=>exact iU (x:= .d x) hv hx hd hfz ha hs
 | .ptr ..,hv,hx,hd=>exact iU (x:= .ptr ..) hv hx hd hfz ha hs
 | .el ..,hv,hx,hd=>exact iU (x:= .el ..) hv hx hd hfz ha hs
 | .rp ..,hv,hx,hd=>exact iU (x:= .rp ..) hv hx hd hfz ha hs
 | .row _,hv,hx,hd=>exact iU (x:= .row _) hv hx hd hfz ha hs
 | .mp _,hv,hx,hd=>exact iU (x:= .mp _) hv hx hd hfz ha hs
 | .bp ..,_,_,hd=>simp [Qv,RB] at hd
 | .sub ..,hv,hx,hd=>exact iU (x:= .sub ..) hv hx hd hfz ha hs
 | .agg _,hv,hx,hd=>exact iU (x:= .agg _) hv hx hd hfz ha hs
 | .fn _ [],hv,hx,hd=>exact iU (x:= .fn _ []) hv hx hd hfz ha hs
 | .fn _ (_::_),hv,hx,hd=>exact iU (x:= .fn _ (_::_)) hv hx hd hfz ha hs
theorem IS {h:Nat→Option Obj}{v:Value}:∀ {t:pI} {x:D},VD h x v→VD h (MZ t x) v:=by
 intro t x hx
 cases t with
 |Z sz=>
  cases x with
  |nils a b=>
   have hx:v = .slice none 0 0:=hx
   subst hx
   exact⟨none,0,rfl,B9 _,by unfold maxLen;omega,.inl rfl⟩
  |_=>exact hx
 |_=>exact hx
theorem AR {h:Nat→Option Obj}:∀ {ts:List pI} {xs:List D} {vs:List Value},vW h xs vs→vW h (BR ts xs) vs
 |[],xs,_,hx=>by cases xs<;>exact hx
 |_::_,[],_,hx=>hx
 |t::ts,x::xs,_,⟨v,r,e,h1,h2⟩=>⟨v,r,e,IS h1,AR h2⟩
theorem GR {h:Nat→Option Obj}{v:Value}{t:Ty}{x:D}(hx:VD h x v):VD h (BS t x) v:=by
 cases t with
 |leaf t=>exact IS hx
 |agg ts=>
  cases x with
  |agg cs=>
   obtain⟨us,e,h1⟩:=hx
   exact⟨us,e,AR h1⟩
  |_=>exact hx
 |ifc t ts=>exact hx
theorem zO {g':G}{ty:Ty}{x:V}{v:Value}{d:D}{fz os:List Nat}(hv:VV g x v)(hx:x.T0 p)(hd:Ue ty h x=some (d,fz))(hfz:∀ o∈fz,o∈os)
  (ha:L8 p g g') (hs:P3 u p g' (V4 h os) w):VD g'.h d v:=by
 unfold Ue at hd
 split at hd
 ·rename_i d0 a h0
  cases hd
  exact GR (CE hv hx h0 hfz ha hs)
 ·cases hd
theorem rR {P:Program}{e:TypeId}{z:D}(h:JG P e=some z):∃ i zv,P.info? e=some i∧i.zero=some zv∧∀ g:Nat→Option Obj,VD g z zv:=by
 unfold JG at h
 split at h
 ·rename_i z0 hz
  cases h
  obtain⟨i,zv,h1,h2,h3⟩:=CJ hz
  exact⟨i,zv,h1,h2,fun g=>GR (h3 g)⟩
 ·cases h
theorem IW (S:At u p g st a w){g':G}(ha:L8 p g g'){os:List Nat}(hs:P3 u p g' (V4 st.h os) w){ty:Ty}{sz:Nat}:∀ (ps:List (Nat×Operand)) (xs ys:List D) (b:List Nat) (us:Array Value),
  tQ ty st.h (K2 st) sz xs ps=some (ys,b)→(∀ o∈b,o∈os)→mY g'.h sz xs us.toList→
  ∃ us',Instr.fill (fun i=>some (i*sz,sz)) us (ps.map fun x=>(x.1,a.eval x.2))=some us'∧mY g'.h sz ys us'.toList∧ys.length=xs.length
 |[],xs,ys,b,us,h,_,hf=>by
  simp only [tQ,B1,C7] at h
  obtain⟨rfl,rfl⟩:=h
  exact⟨us,rfl,hf,rfl⟩
 |(k,x)::ps,xs,ys,b,us,h,hb,hf=>by
  simp only [tQ] at h
  split at h
  ·rename_i d fz hd
   replace h:=H8 h
   obtain⟨hc,h⟩:=h
   simp only [A9] at hc
   obtain⟨⟨hk,hok⟩,hsz⟩:=hc
   have hk:k<xs.length:=by have h1:Nat.ble (k+1) xs.length=true:=hk;exact B3 h1
   have hsz:d.cells.length=sz:=B0 hsz
   split at h
   ·rename_i ys' b' hr
    simp only [B1,C7] at h
    obtain⟨rfl,rfl⟩:=h
    have hv:=zO (S.ev x) (S.Z7 x) hd (fun o ho=>hb o (by simp [ho])) ha hs
    obtain⟨d1,d2⟩:=EI hok hv
    have hvs:(a.eval x).cells.size=sz:=by rw [d2,hsz]
    have hlen:=hJ hf
    simp only [E2] at hlen
    have hmul:k*sz+sz≤us.size:=by
     rw [hlen,← Nat.succ_mul];exact Nat.mul_le_mul_right _ hk
    have hf':mY g'.h sz (xs.set k d) ((a.eval x).cells.zipIdx.foldl (fun cs (x:Value×Nat)=>cs.setIfInBounds (k*sz+x.2) x.1) us).toList:=by
     rw [LY];exact Db hf hk hvs d1 hv
    obtain⟨us',k1,k2,k3⟩:=IW S ha hs ps _ _ _ _ hr (fun o ho=>hb o (by simp [ho])) hf'
    refine⟨us',?_,k2,by rw [k3];simp⟩
    have e1:¬ ((a.eval x).cells.size≠sz∨k*sz+(a.eval x).cells.size>us.size):=by omega
    simp only [List.map_cons,Instr.fill]
    rw [if_neg (by simpa using e1)]
    exact k1
   ·cases h
  ·cases h
theorem PA (S:At u p g st a w)(hpq:∀ x,p x→q x){nid:Nat}(hfr:iY p q nid){t:TypeId}{n:Nat}{ps:Array (Nat×Operand)}(ho:o.op = .buildSlice t n ps)
  (h:(match iK P t with
  |some e=>(match JG P e with
   |some z=>bif Nat.blt 0 (L6 P e)&&CD P e&&Nat.ble (n*L6 P e) 16777216&&Qa z&&Nat.beq z.cells.length (L6 P e) then
     (match tQ (zW P e) st.h (K2 st) (L6 P e) (List.replicate n z) ps.toList with
     |some (xs,fz)=>K (.row nid) (newRow (st.freeze fz) nid e (L6 P e) xs)
     |none=>none) else none
   |none=>none)
  |none=>none)=some r):Goal u p q g st a w P o K r:=by
 split at h
 ·rename_i e he
  split at h
  ·rename_i z hz
   obtain⟨hc,h⟩:=H8 h
   simp only [A9] at hc
   obtain⟨⟨⟨⟨hpos,htok⟩,hle⟩,hok⟩,hzl⟩:=hc
   have hpos:0<L6 P e:=by have h1:Nat.ble 1 (L6 P e)=true:=hpos;exact B3 h1
   have hle:n*L6 P e≤16777216:=B3 hle
   have hzl:z.cells.length=L6 P e:=B0 hzl
   obtain⟨i,zv,hi,hzv,hV⟩:=rR hz
   have hsi:L6 P e=i.size:=by simp [L6,hi]
   split at h
   ·rename_i xs fz hput
    obtain⟨g1,a1,b1,c1,s1⟩:=S.hp.freeze fz
    obtain⟨z1,z2⟩:=EI (g:=g) hok (hV g.h)
    have hzs:zv.cells.size=L6 P e:=by rw [z2,hzl]
    have hmade:(madeCells zv.cells (n*L6 P e)).toList=(List.replicate n zv.cells.toList).flatten:=by
     have:=rC zv.cells (by rw [hzs];exact hpos) n
     rwa [hzs] at this
    obtain⟨us',k1,k2,k3⟩:=IW S a1 s1 ps.toList _ _ _ (madeCells zv.cells (n*L6 P e)) hput (fun o ho=>ho) (by rw [hmade];exact oB hzs z1 (hV _) n)
    have hlen:=hJ k2
    simp only [E2,k3,List.length_replicate] at hlen
    have hn:n≤maxLen:=by
     have:n≤n*L6 P e:=Nat.le_mul_of_pos_right n hpos
     simp only [maxLen];omega
    have hxs:xs.length=n:=by rw [k3];simp
    have hown:=World.ownsRow_lit (e:=e) (size:=L6 P e) w us' n (C4 _) hn hlen
    obtain⟨g',m1,m2,m3,m4,m5⟩:=gB (h':=(newRow (st.freeze fz) nid e (L6 P e) xs).h) s1 hpq hfr.zero.1 hfr.zero.2 (World.grownBy_alloc w _ none) (by rw [hxs];exact hown) hpos k2
     (fun b hb=>by cases hb) (fun b hb=>by simp only [Value.ownBlock,B1] at hb;exact .inr (by omega)) (fun o' x hx hne=>by rw [newRow,Q8,if_neg hne] at hx;exact⟨hx,fun _ _ e=>by cases e⟩) (by rw [newRow,Q8];simp)
    have ha:L8 p g g':=⟨fun b x e=>m1.h b x (a1.h b x e),fun x hx=>(m1.blk x hx).trans (a1.blk x hx),fun x hx=>(m1.hdr x hx).trans (a1.hdr x hx)⟩
    refine Goal.res h (v:= .slice (some ⟨w.heap.size,0,none⟩) n n) ?_ m5 ha (nO ha) ⟨m4.symm,rfl⟩ hfr.zero.2 rfl rfl
    have ht:=lH he
    rw [hsi] at hle k1
    have hk1:Instr.fill (fun i_1=>some (i_1*i.size,i.size)) (madeCells zv.cells (n*i.size)) (ps.map fun (k,x)=>(k,a.eval x)).toList=some us':=by
     rw [Array.toList_map];exact k1
    simp only [execOp,ho,Instr.buildSlice,Sem.run_bind,run_underlying ht,Result.andThen_ok,fY hi]
    by_cases hn0:n*i.size=0
    ·have hn0':n=0:=by
      rcases Nat.eq_zero_or_pos n with h0|h0
      ·exact h0
      ·have hpi:0<i.size:=by rw [← hsi];exact hpos
       have:=Nat.mul_pos h0 hpi;omega
     have e1:madeCells zv.cells (n*i.size)=#[]:=by rw [hn0];simp [madeCells]
     rw [e1] at hk1
     subst hn0'
     rw [Array.toList_map] at hk1
     have e0:(Array.range 0).map (fun _:Nat=>(default:Value))=#[]:=by simp
     simp [e0,hk1,Go.newRow]
    ·have hle':¬ (n*i.size>2 ^ 24):=by omega
     simp [hle',hn0,zeroValue,typeInfo,hi,hzv,Go.newRow]
     have e2:(Array.range (n*i.size)).map (fun x=>zv.cells[x % zv.cells.size]!)=madeCells zv.cells (n*i.size):=rfl
     simp [madeCells] at hk1
     simp [hk1]
   ·cases h
  ·cases h
 ·cases h
end
end Go.AE
