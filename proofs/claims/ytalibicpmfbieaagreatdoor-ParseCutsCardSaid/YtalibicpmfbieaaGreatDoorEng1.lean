import Derived.WalkKit
import Derived.Laws.OwnMore
import Derived.WalkLawsBesides
import Derived.Laws.StructEq
import Derived.Laws.Cover3
import Derived.Laws.IdiomStrings
import Derived.Laws.Tables
import Derived.Laws.Slices
import Derived.Laws.MakeOwn
import Derived.Laws.AppendOwnNone
set_option linter.all false
namespace Go.AE
abbrev G1:=List UInt8
abbrev A0:=@List.length_cons
abbrev A7:=@List.length_append
abbrev A8:=@List.length_nil
abbrev A9:=@Bool.and_eq_true
abbrev B0:=@Nat.eq_of_beq_eq_true
abbrev B1:=@Option.some.injEq
abbrev B2:=@Nat.ble_eq_true_of_le
abbrev B3:=@Nat.le_of_ble_eq_true
abbrev B4:=@List.mem_append_right
abbrev B5:=@List.mem_append_left
abbrev B6:=@List.all_eq_true
abbrev B7:=@List.mem_cons
abbrev B8:=@List.mem_cons_self
abbrev B9:=@Nat.le_refl
abbrev C0:=@List.mem_cons_of_mem
abbrev C1:=@List.append_assoc
abbrev C2:=@List.getElem?_eq_getElem
abbrev C3:=@List.mem_singleton
abbrev C4:=@Nat.zero_le
abbrev C5:=@Nat.zero_add
abbrev C6:=@List.getElem_mem
abbrev C7:=@Prod.mk.injEq
abbrev C8:=@Array.getElem?_eq_getElem
abbrev C9:=@List.length_singleton
abbrev D0:=@Array.getElem?_toList
abbrev D1:=@List.eq_nil_of_length_eq_zero
abbrev D2:=@Array.getD_eq_getD_getElem?
abbrev D3:=@List.mem_append
abbrev D4:=@List.drop_eq_nil_of_le
abbrev D5:=@List.append_nil
abbrev D6:=@Bool.false_eq_true
abbrev D7:=@List.length_take
abbrev D8:=@Bool.not_eq_true'
abbrev D9:=@List.flatMap_cons
abbrev E1:=@Int.toNat_natCast
abbrev E4:=@Array.length_toList
abbrev E5:=@List.length_eq_zero_iff
abbrev E6:=@decide_eq_true
abbrev E7:=@of_decide_eq_true
abbrev E8:=@decide_eq_false
abbrev E9:=@of_decide_eq_false
abbrev F3:=@beq_self_eq_true
abbrev F4:=@beq_eq_false_iff_ne
abbrev F5:=@List.getElem?_append_right
abbrev F6:=@List.getElem_append_left
abbrev F7:=@List.mem_flatMap
abbrev F9:=@List.length_drop
def G0:(∀ {α:Type} (as bs:List α),(as++bs).length=as.length+bs.length)∧(∀ {α:Type} (a:α) (as:List α),(a::as).length=as.length+1)∧(∀ {α:Type},([]:List α).length=0):=⟨fun _ _=>List.length_append,fun _ _=>rfl,rfl⟩
inductive D where
 |top
 |bool (b:Bool)
 |int (k:IntKind) (n:Int)
 |str (s:G1)
 |Z (sz:Nat) (xs:List D)
 |nils (e sz:Nat)
 |und
 |agg (cs:List D)
 |fn (f:Nat)
 |nilp
 |nilf
 |nilm
 |nili
 |ub
 |iface (t:Nat) (x:D)
instance:Inhabited D:=⟨.top⟩
namespace D
def b:D→Bool | .bool b=>b|_=>false
def i:D→Int | .int _ n=>n|_=>0
def s:D→G1 | .str s=>s|_=>[]
def l:D→List D | .Z _ xs=>xs|_=>[]
def cells:D→List D | .agg cs=>cs|x=>[x]
def at_ (x:D)(j:Nat):D:=(x.cells)[j]?.getD .top
end D
mutual
def D.eq:D→D→Bool
 | .top,.top=>true
 | .bool a,.bool b=>a==b
 | .int k a,.int i b=>decide (k=i)&&a==b
 | .str a,.str b=>a==b
 | .Z s xs,.Z t ys=>Nat.beq s t&&D.eqs xs ys
 | .nils a b,.nils c d=>Nat.beq a c&&Nat.beq b d
 | .und,.und=>true
 | .agg xs,.agg ys=>D.eqs xs ys
 | .fn f,.fn g=>Nat.beq f g
 | .nilp,.nilp=>true
 | .nilf,.nilf=>true
 | .nilm,.nilm=>true
 | .nili,.nili=>true
 | .ub,.ub=>true
 | .iface t x,.iface e y=>Nat.beq t e&&D.eq x y
 |_,_=>false
def D.eqs:List D→List D→Bool
 |[],[]=>true
 |x::xs,y::ys=>D.eq x y&&D.eqs xs ys
 |_,_=>false
end
inductive tH where
 |any|bool|int (k:IntKind)|str|Z (sz:Nat)
inductive Ty where
 |leaf (t:tH)
 |agg (ts:List tH)
def eO:tH→D→Bool
 | .any,_=>true
 | .bool,.bool _=>true
 | .int k,.int c _=>decide (k=c)
 | .str,.str _=>true
 | .Z sz,.Z b _=>Nat.beq sz b
 | .Z _,.nils _ _=>true
 |_,_=>false
def NA:tH→D→D
 | .any,x=>x
 | .bool,x=> .bool x.b
 | .int k,x=> .int k x.i
 | .str,x=> .str x.s
 | .Z sz,x=> .Z sz x.l
def aT:List tH→List D→Bool
 |[],[]=>true
 |t::ts,c::cs=>eO t c&&aT ts cs
 |_,_=>false
def vU:List tH→D→Nat→List D
 |[],_,_=>[]
 |t::ts,x,j=>NA t (x.at_ j)::vU ts x (j+1)
def kX:Ty→D→Bool
 | .leaf t,x=>eO t x
 | .agg ts,.agg cs=>aT ts cs
 | .agg _,_=>false
def K4:Ty→D→D
 | .leaf t,x=>NA t x
 | .agg ts,x=> .agg (vU ts x 0)
inductive V where
 |d (x:D)
 |ptr (o off:Nat)
 |el (sz:Nat) (xs:List D) (i off:Nat)
 |rp (o sz i off:Nat)
 |row (o:Nat)
 |sub (o sz lo n:Nat)
 |agg (cs:List V)
 |fn (f:Nat) (caps:List V)
 |tup (vs:List V)
 |mp (o:Nat)
 |bp (t o off:Nat)
instance:Inhabited V:=⟨.d .top⟩
abbrev V.top:V:= .d .top
inductive Ob where
 |var (cs:List V)
 |row (e sz:Nat) (xs:List D) (fz:Bool)
 |mp (kt:tH) (xs:List D)
structure Mk where
 k:Nat
 df:List (Nat×List (Nat×Nat))
structure St where
 t:Nat→V
 h:Nat→Option Ob
 m:Mk
abbrev St.n (st:St):Nat:=st.m.k
def St.set (st:St)(d:Nat)(v:V):St:={ st with t:=fun x=>bif Nat.beq x d then v else st.t x }
def St.put (st:St)(d:Option Nat)(v:V):St:=match d with|some d=>st.set d v|none=>st
def St.nM (st:St)(o:Nat)(ob:Option Ob):St:={ st with h:=fun x=>bif Nat.beq x o then ob else st.h x }
abbrev Out:=Option (Bool×List D)
inductive SV where
 |d (t:Ty)
 |ptr (o off:Nat)
 |row (o:Nat)
 |fn (f:Nat) (caps:List SV)
 |agg (cs:List SV)
 |x
 |mp (o:Nat)
 |bp (t o off:Nat)
inductive IQ where
 |var (cs:List SV)
 |row (e sz mode:Nat)
 |gone
 |mp (kt:tH)
structure Sk where
 slots:List (Nat×SV)
 objs:List IQ
inductive Task where
 |call (f:Nat) (sk:Sk) (ds:List D)
 |loop (f:Nat) (I6:Sk) (pre:List (Nat×Nat)) (df:List (Nat×List (Nat×Nat))) (once:Bool) (id:Nat) (body:Code) (sk:Sk) (ds:List D)
structure sN where
 P:Program
 own:Nat→Nat→Nat
 dres:Nat→Nat→Nat
 keep:Nat→Nat→List Nat
 cut:Nat→Nat→List Nat
 SQ:Nat→Sk→List D→Option (List D)
 ext:Nat→List D→Option (Bool×List D)
 IS:(Nat→Option Obj)→Prop
 glob:Nat→Option (List D)
 bld:Nat→Option Nat:=fun _=>none
 cc:Nat→Bool:=fun _=>false
 bstr:Nat→Bool:=fun _=>false
 bty:Nat:=0
def iC:TypeDesc→Bool
 | .struct _=>true
 | .array _ _=>true
 |_=>false
def X7 (P:Program)(t:TypeId):Bool:=match P.underlying t with|some d=>iC d|none=>false
def cA (P:Program)(t:TypeId):Nat:=match P.info? t with|some i=>i.size|none=>0
def oI (P:Program)(t:TypeId):Option TypeId:=match P.underlying t with|some (.slice e)=>some e|_=>none
def IV (P:Program)(t:TypeId):Bool:=(P.underlying t).isSome&&(P.info? t).isSome
def gZ (P:Program)(t:TypeId):Bool:=(oI P t).isSome
def kF (P:Program)(t:TypeId):tH:=
 match P.underlying t with
 |some .bool=> .bool
 |some (.int k)=> .int k
 |some .string=> .str
 |some (.slice e)=> .Z (cA P e)
 |_=> .any
def HP (P:Program):Nat→TypeId→List tH
 |0,_=>[]
 |n+1,t=>
  match P.underlying t with
  |some (.struct fs)=>fs.toList.flatMap fun f=>HP P n f.type
  |some (.array k e)=>(List.range k).flatMap fun _=>HP P n e
  |_=>[kF P t]
def zF (P:Program)(t:TypeId):Ty:=bif X7 P t then .agg (HP P 8 t) else .leaf (kF P t)
def EX (P:Program)(t:TypeId)(k:Nat):Option (Nat×TypeId):=
 match P.underlying t with
 |some (.struct fs)=>match fs[k]? with|some f=>some (f.offset,f.type)|none=>none
 |_=>none
def OW:Value→D
 | .bool b=> .bool b
 | .int k n=> .int k n
 | .string s=> .str s.data.toList
 | .slice none 0 0=> .nils 0 0
 | .pointer none=> .nilp
 | .nilFunc=> .nilf
 | .map none=> .nilm
 | .nilIface=> .nili
 |_=> .top
def WN:Value→D
 | .agg cs=> .agg (cs.toList.map OW)
 |v=>OW v
def NF (P:Program):Nat→TypeId→List TypeId
 |0,_=>[]
 |n+1,t=>
  match P.underlying t with
  |some (.struct fs)=>fs.toList.flatMap fun f=>NF P n f.type
  |some (.array k e)=>(List.range k).flatMap fun _=>NF P n e
  |_=>[t]
def zeroCell (P:Program)(t:TypeId)(x:D):D:=
 match x with
 | .nils _ _=>(match P.underlying t with|some (.slice e)=> .nils e (cA P e)|_=>x)
 |x=>x
def zeroCells (P:Program):List TypeId→List D→List D
 |t::ts,x::xs=>zeroCell P t x::zeroCells P ts xs
 |[],xs=>xs
 |_,[]=>[]
def RT (P:Program)(t:TypeId):Option D:=
 match P.info? t with
 |some i=>(match i.zero with
  |some z=>(match WN z with
   | .agg cs=>some (.agg (zeroCells P (NF P 8 t) cs))
   |x=>some (zeroCell P t x))
  |none=>none)
 |none=>none
def V.cells:V→List V
 | .d (.agg cs)=>cs.map V.d
 | .agg cs=>cs
 |v=>[v]
def oH:V→Bool
 | .d .top=>false
 | .d .und=>false
 | .d (.agg _)=>false
 | .agg _=>false
 | .tup _=>false
 | .bp ..=>false
 |_=>true
def gO (v:V):Bool:=v.cells.all oH
def Ys (x:D):Bool:=x.cells.all fun c=>oH (.d c)
def VZ:List V→Option (List D)
 |[]=>some []
 |v::b=>match v,VZ b with | .d x,some xs=>some (x::xs)|_,_=>none
def pY:V→V
 | .fn _ (_::_)=> .top
 | .agg _=> .top
 | .tup _=> .top
 | .bp ..=> .top
 |v=>v
def aY3 (cs:List V):V:=match VZ cs with|some xs=> .d (.agg xs)|none=> .agg (cs.map pY)
def setAt {α:Type}:List α→Nat→List α→List α
 |xs,_,[]=>xs
 |xs,off,y::ys=>setAt (xs.set off y) (off+1) ys
def QL (h:Nat→Option Ob):V→Option (Nat×List D)
 | .d (.Z sz xs)=>some (sz,xs)
 | .d (.nils _ _)=>some (0,[])
 | .row o=>match h o with|some (.row _ sz xs _)=>some (sz,xs)|_=>none
 | .sub o z b n=>match h o with|some (.row _ sz xs _)=>bif Nat.beq z sz then some (sz,(xs.drop b).take n) else none|_=>none
 |_=>none
def UN (h:Nat→Option Ob):V→Option (D×List Nat)
 | .d x=>some (x,[])
 | .row o=>match h o with|some (.row _ sz xs _)=>some (.Z sz xs,[o])|_=>none
 | .sub o z b n=>match h o with|some (.row _ sz xs _)=>bif Nat.beq z sz then some (.Z sz ((xs.drop b).take n),[o]) else none|_=>none
 | .fn f []=>some (.fn f,[])
 |_=>none
def HO (h:Nat→Option Ob):List V→Option (List D×List Nat)
 |[]=>some ([],[])
 |v::c=>match UN h v,HO h c with|some (x,a),some (xs,b)=>some (x::xs,a++b)|_,_=>none
def aH8 (h:Nat→Option Ob):V→Option (D×List Nat)
 | .agg cs=>match HO h cs with|some (xs,a)=>some (.agg xs,a)|none=>none
 |v=>UN h v
def QR:tH→D→D
 | .Z sz,x=>(match x with | .nils _ _=> .Z sz []|y=>y)
 |_,x=>x
def FF:List tH→List D→List D
 |t::ts,x::xs=>QR t x::FF ts xs
 |_,xs=>xs
def FG:Ty→D→D
 | .leaf t,x=>QR t x
 | .agg ts,x=>(match x with | .agg cs=> .agg (FF ts cs)|y=>y)
def aP1 (ty:Ty)(h:Nat→Option Ob)(v:V):Option (D×List Nat):=match aH8 h v with|some (x,a)=>some (FG ty x,a)|none=>none
def bJ (h:Nat→Option Ob):List Nat→Nat→Option Ob
 |[]=>h
 |o::os=>fun x=>bif Nat.beq x o then (match h o with|some (.row e sz xs _)=>some (.row e sz xs true)|ob=>ob) else bJ h os x
def St.freeze (st:St)(os:List Nat):St:={ st with h:=bJ st.h os }
def W4:List (Nat×Nat)→Nat→Option Nat
 |[],_=>none
 |(a,b)::r,x=>bif Nat.beq x a then some b else W4 r x
def Qr:List (Nat×Nat)→Nat→Bool
 |[],_=>false
 |(_,b)::r,x=>Nat.beq x b||Qr r x
def Km (ren:List (Nat×Nat))(l o:Nat):Option (List (Nat×Nat)):=
 match W4 ren l with
 |some o'=>bif Nat.beq o o' then some ren else none
 |none=>bif Qr ren o then none else some ((l,o)::ren)
structure Cf where
 ds:List D
 fz:List Nat
 ren:List (Nat×Nat)
def Qu (h:Nat→Option Ob)(o:Nat):Bool:=match h o with|some (.row _ _ _ fz)=>!fz|_=>false
def isVar (h:Nat→Option Ob)(o:Nat):Bool:=match h o with|some (.var _)=>true|_=>false
def aN0 (h:Nat→Option Ob)(o:Nat):Bool:=match h o with|some (.mp _ _)=>true|_=>false
def tH.same:tH→tH→Bool
 | .any,.any=>true
 | .bool,.bool=>true
 | .int a,.int b=>decide (a=b)
 | .str,.str=>true
 | .Z a,.Z b=>Nat.beq a b
 |_,_=>false
def mV (h:Nat→Option Ob)(c:Cf):SV→V→Option Cf
 | .d t,v=>match aH8 h v with|some (x,a)=>some ⟨c.ds++[FG t x],c.fz++a,c.ren⟩|none=>none
 | .ptr l f,.ptr o b=>bif Nat.beq f b&&isVar h o then (match Km c.ren l o with|some r=>some ⟨c.ds,c.fz,r⟩|none=>none) else none
 | .row l,.row o=>bif Qu h o then (match Km c.ren l o with|some r=>some ⟨c.ds,c.fz,r⟩|none=>none) else none
 | .x,_=>some c
 | .mp l,.mp o=>bif aN0 h o then (match Km c.ren l o with|some r=>some ⟨c.ds,c.fz,r⟩|none=>none) else none
 | .fn f [],.d (.fn b)=>bif Nat.beq f b then some c else none
 | .fn f [],.fn b []=>bif Nat.beq f b then some c else none
 |_,_=>none
def lT (h:Nat→Option Ob):Cf→List SV→List V→Option Cf
 |c,[],[]=>some c
 |c,s::ss,v::b=>match mV h c s v with|some c'=>lT h c' ss b|none=>none
 |_,_,_=>none
def KX (h:Nat→Option Ob)(c:Cf):SV→V→Option Cf
 | .fn f e,.fn i b=>bif Nat.beq f i then lT h c e b else none
 | .bp t l f,.bp j o i=>bif Nat.beq t j&&Nat.beq f i then (match Km c.ren l o with|some r=>some ⟨c.ds,c.fz,r⟩|none=>none) else none
 | .agg ss,.agg cs=>lT h c ss cs
 | .agg ss,.d (.agg cs)=>lT h c ss (cs.map V.d)
 |s,v=>mV h c s v
def vT (st:St):Cf→List (Nat×SV)→Option Cf
 |c,[]=>some c
 |c,(t,s)::r=>match KX st.h c s (st.t t) with|some c'=>vT st c' r|none=>none
def nS (h:Nat→Option Ob):Cf→List SV→List V→Option Cf
 |c,[],[]=>some c
 |c,s::ss,v::b=>match KX h c s v with|some c'=>nS h c' ss b|none=>none
 |_,_,_=>none
def rM (h:Nat→Option Ob):Cf→Nat→List IQ→Option Cf
 |c,_,[]=>some c
 |c,l,.gone::r=>rM h c (l+1) r
 |c,l,.var ss::r=>
  match W4 c.ren l with
  |some o=>match h o with
   |some (.var cs)=>match nS h c ss cs with|some c'=>rM h c' (l+1) r|none=>none
   |_=>none
  |none=>none
 |c,l,.row e sz _::r=>
  match W4 c.ren l with
  |some o=>match h o with
   |some (.row i b xs false)=>bif Nat.beq e i&&Nat.beq sz b then rM h ⟨c.ds++[.Z sz xs],c.fz,c.ren⟩ (l+1) r else none
   |_=>none
  |none=>none
 |c,l,.mp f::r=>
  match W4 c.ren l with
  |some o=>match h o with
   |some (.mp d xs)=>bif tH.same f d then rM h ⟨c.ds++[.Z 2 xs],c.fz,c.ren⟩ (l+1) r else none
   |_=>none
  |none=>none
def WA (ren:List (Nat×Nat)):List Nat→Bool
 |[]=>true
 |o::os=>!(Qr ren o)&&WA ren os
def Ik (n:Nat):List (Nat×Nat)→Bool
 |[]=>true
 |(l,_)::r=>Nat.blt l n&&Ik n r
def WK (sk:Sk)(pre:List (Nat×Nat))(st:St):Option Cf:=
 match vT st ⟨[],[],pre⟩ sk.slots with
 |some c=>match rM st.h c 0 sk.objs with
  |some c'=>bif WA c'.ren c'.fz&&Ik sk.objs.length c'.ren then some c' else none
  |none=>none
 |none=>none
def Y:List D→Nat→D
 |[],_=> .top
 |x::_,0=>x
 |_::r,n+1=>Y r n
def dG (E:Ty→D→D)(ds:List D):SV→Nat→V×Nat
 | .d t,j=>(.d (E t (Y ds j)),j+1)
 | .ptr o f,j=>(.ptr o f,j)
 | .row o,j=>(.row o,j)
 | .fn f _,j=>(.d (.fn f),j)
 | .agg _,j=>(.top,j)
 | .x,j=>(.top,j)
 | .mp o,j=>(.mp o,j)
 | .bp ..,j=>(.top,j)
def V1 (E:Ty→D→D)(ds:List D):List SV→Nat→List V×Nat
 |[],j=>([],j)
 |s::ss,j=>match dG E ds s j with|(v,c)=>match V1 E ds ss c with|(b,r)=>(v::b,r)
def kG (E:Ty→D→D)(ds:List D):SV→Nat→V×Nat
 | .fn f (c::b),j=>match V1 E ds (c::b) j with|(d,r)=>(.fn f d,r)
 | .agg ss,j=>match V1 E ds ss j with|(d,r)=>(aY3 d,r)
 | .bp t o f,j=>(.bp t o f,j)
 |s,j=>dG E ds s j
def aZ (E:Ty→D→D)(ds:List D):List SV→Nat→List V×Nat
 |[],j=>([],j)
 |s::ss,j=>match kG E ds s j with|(v,c)=>match aZ E ds ss c with|(b,r)=>(v::b,r)
def bF (E:Ty→D→D)(ds:List D):List (Nat×SV)→Nat→(Nat→V)×Nat
 |[],j=>(fun _=> .top,j)
 |(t,s)::r,j=>match kG E ds s j with|(v,b)=>match bF E ds r b with|(f,q)=>(fun x=>bif Nat.beq x t then v else f x,q)
def bA (E:Ty→D→D)(ds:List D):List IQ→Nat→Nat→Nat→Option Ob
 |[],_,_=>fun _=>none
 | .gone::r,l,j=>bA E ds r (l+1) j
 | .var ss::r,l,j=>match aZ E ds ss j with|(b,d)=>fun x=>bif Nat.beq x l then some (.var b) else bA E ds r (l+1) d x
 | .row e sz _::r,l,j=>fun y=>bif Nat.beq y l then some (.row e sz (Y ds j).l false) else bA E ds r (l+1) (j+1) y
 | .mp c::r,l,j=>fun y=>bif Nat.beq y l then some (.mp c (Y ds j).l) else bA E ds r (l+1) (j+1) y
def W3 (E:Ty→D→D)(sk:Sk)(ds:List D):St:=
 match bF E ds sk.slots 0 with
 |(t,j)=>⟨t,bA E ds sk.objs 0 j,⟨sk.objs.length,[]⟩⟩
def fD (sk:Sk)(ds:List D):St:=W3 K4 sk ds
def St.later (st:St)(df:List (Nat×List (Nat×Nat))):St:={ st with m:=⟨st.m.k,df⟩ }
def YT:List (Nat×Nat)→List (Nat×Nat)→Bool
 |[],[]=>true
 |(a,b)::r,(c,d)::q=>Nat.beq a c&&Nat.beq b d&&YT r q
 |_,_=>false
def RD:List (Nat×List (Nat×Nat))→List (Nat×List (Nat×Nat))→Bool
 |[],[]=>true
 |(a,b)::r,(c,d)::q=>Nat.beq a c&&YT b d&&RD r q
 |_,_=>false
def mL:SV→List D→Bool×List D
 | .d t,x::ds=>(kX t x,ds)
 | .d _,[]=>(false,[])
 |_,ds=>(true,ds)
def oR:List SV→List D→Bool×List D
 |[],ds=>(true,ds)
 |s::ss,ds=>match mL s ds with|(b,c)=>match oR ss c with|(b',r)=>(b&&b',r)
def MJ:SV→List D→Bool×List D
 | .fn _ b,ds=>oR b ds
 | .agg ss,ds=>oR ss ds
 |s,ds=>mL s ds
def tU:List SV→List D→Bool×List D
 |[],ds=>(true,ds)
 |s::ss,ds=>match MJ s ds with|(b,c)=>match tU ss c with|(b',r)=>(b&&b',r)
def rT:List (Nat×SV)→List D→Bool×List D
 |[],ds=>(true,ds)
 |(_,s)::r,ds=>match MJ s ds with|(b,c)=>match rT r c with|(b',q)=>(b&&b',q)
def qZ:List IQ→List D→Bool
 |[],[]=>true
 |[],_::_=>false
 | .gone::r,ds=>qZ r ds
 | .var ss::r,ds=>match tU ss ds with|(b,c)=>b&&qZ r c
 | .row _ sz _::r,x::ds=>eO (.Z sz) x&&qZ r ds
 | .row ..::_,[]=>false
 | .mp _::r,x::ds=>eO (.Z 2) x&&qZ r ds
 | .mp _::_,[]=>false
def Q5 (sk:Sk)(ds:List D):Bool:=match rT sk.slots ds with|(b,r)=>b&&qZ sk.objs r
def Fh:D→tH
 | .bool _=> .bool
 | .int k _=> .int k
 | .str _=> .str
 | .Z sz _=> .Z sz
 | .nils (_+1) sz=> .Z sz
 |_=> .any
def aX3:D→Ty
 | .agg cs=> .agg (cs.map Fh)
 |x=> .leaf (Fh x)
def qU (xs:List Nat):List Nat→List Nat
 |[]=>xs
 |o::os=>qU (bif xs.any (Nat.beq o) then xs else xs++[o]) os
def wX (h:Nat→Option Ob):V→List Nat
 | .ptr o _=>[o]
 | .mp o=>[o]
 | .row o=>bif Qu h o then [o] else []
 |_=>[]
def AL (h:Nat→Option Ob):V→List Nat
 | .fn _ b=>b.flatMap (wX h)
 | .agg cs=>cs.flatMap (wX h)
 |v=>wX h v
def aE3 (h:Nat→Option Ob)(o:Nat):List Nat:=match h o with|some (.var cs)=>cs.flatMap (AL h)|_=>[]
def reach (h:Nat→Option Ob):Nat→List Nat→List Nat
 |0,os=>os
 |n+1,os=>reach h n (qU os (os.flatMap (aE3 h)))
def idx:List Nat→Nat→Nat
 |[],_=>0
 |a::r,x=>bif Nat.beq x a then 0 else idx r x+1
def Gm (h:Nat→Option Ob)(all:List Nat):V→SV
 | .d (.fn f)=> .fn f []
 | .d x=> .d (aX3 x)
 | .ptr o f=> .ptr (idx all o) f
 | .mp o=> .mp (idx all o)
 | .row o=>bif Qu h o&&all.any (Nat.beq o) then .row (idx all o) else (match h o with|some (.row _ sz _ _)=> .d (.leaf (.Z sz))|_=> .x)
 | .sub o _ _ _=>match h o with|some (.row _ sz _ _)=> .d (.leaf (.Z sz))|_=> .x
 | .fn f []=> .fn f []
 |_=> .x
def Vy (h:Nat→Option Ob):V→tH
 | .d x=>Fh x
 | .row o=>(match h o with|some (.row _ sz _ _)=> .Z sz|_=> .any)
 | .sub o _ _ _=>(match h o with|some (.row _ sz _ _)=> .Z sz|_=> .any)
 |_=> .any
def aU5 (h:Nat→Option Ob)(all:List Nat):V→SV
 | .fn f b=> .fn f (b.map (Gm h all))
 | .agg cs=>bif (cs.flatMap (wX h)).any (fun o=>all.any (Nat.beq o)) then .agg (cs.map (Gm h all)) else .d (.agg (cs.map (Vy h)))
 | .bp t o f=> .bp t (idx all o) f
 |v=>Gm h all v
def Zb (h:Nat→Option Ob)(all:List Nat)(mode:Nat→Nat)(o:Nat):IQ:=
 match h o with
 |some (.var cs)=> .var (cs.map (aU5 h all))
 |some (.row e sz _ _)=> .row e sz (mode o)
 |some (.mp b _)=> .mp b
 |none=> .gone
def CI (h:Nat→Option Ob)(own:Nat→Nat):Nat→List V→List Nat
 |_,[]=>[]
 |i,.row o::r=>bif Nat.beq (own i) 0 then CI h own (i+1) r else qU (wX h (.row o)) (CI h own (i+1) r)
 |i,.agg cs::r=>bif Nat.beq (own i) 0 then CI h own (i+1) r else qU (cs.flatMap (wX h)) (CI h own (i+1) r)
 |i,v::r=>AL h v++CI h own (i+1) r
def Fk (h:Nat→Option Ob)(own:Nat→Nat):Nat→List V→Nat→Nat
 |_,[],_=>0
 |i,v::r,x=>bif !(Nat.beq (own i) 0)&&(match v with | .row o=>Nat.beq x o | .agg cs=>(cs.flatMap (wX h)).any (Nat.beq x)|_=>false)
   then (bif Nat.beq (own i) 1 then 2 else 1) else Fk h own (i+1) r x
def NN (h:Nat→Option Ob)(all:List Nat):Nat→List V→List (Nat×SV)
 |_,[]=>[]
 |i,v::r=>(i,aU5 h all v)::NN h all (i+1) r
def Qi (h:Nat→Option Ob)(mode:Nat→Nat):List Nat→List Nat×List Nat
 |[]=>([],[])
 |o::os=>match Qi h mode os with|(a,b)=>bif isVar h o||aN0 h o||Nat.beq (mode o) 1 then (o::a,b) else (a,o::b)
def OT (h:Nat→Option Ob)(own:Nat→Nat)(args:List V):Sk:=
 match Qi h (Fk h own 0 args) (reach h 3 (qU [] (CI h own 0 args))) with
 |(a,b)=>⟨NN h (a++b) 0 args,(a++b).map (Zb h (a++b) (Fk h own 0 args))⟩
def Rb (st:St)(pre:List Nat)(keep:List Nat):Sk:=
 let b:=keep.filter fun t=>match st.t t with | .d .top=>false | .el ..=>false | .rp ..=>false | .tup _=>false|_=>true
 let all:=reach st.h 3 (qU pre (b.flatMap fun t=>AL st.h (st.t t)))
 ⟨b.map fun t=>(t,aU5 st.h all (st.t t)),all.map (Zb st.h all fun _=>0)⟩
def O8:List V→Nat→List V×List (Nat×Ob)×Nat
 |[],m=>([],[],m)
 | .d (.nils (e+1) (sz+1))::r,m=>match O8 r (m+1) with|(b,os,q)=>(.row m::b,(m,.row (e+1) (sz+1) [] false)::os,q)
 |v::r,m=>match O8 r m with|(b,os,q)=>(v::b,os,q)
def rJ (h:Nat→Option Ob):List (Nat×Ob)→Nat→Option Ob
 |[]=>h
 |(o,ob)::r=>fun x=>bif Nat.beq x o then some ob else rJ h r x
def lY:List Nat→St→St
 |[],st=>st
 |o::os,st=>match st.h o with
  |some (.var (c::cs))=>(match O8 (c::cs) st.n with
   |(b,new,m)=>lY os { st with h:=rJ (fun x=>bif Nat.beq x o then some (.var b) else st.h x) new,m:=⟨m,st.m.df⟩ })
  |_=>lY os st
def VM (st:St)(pre:List Nat)(keep:List Nat):St:=
 lY (reach st.h 3 (qU pre (keep.flatMap fun t=>AL st.h (st.t t)))) st
def BU:List IQ→List IQ
 |[]=>[]
 | .row e sz m::r=>(bif Nat.beq m 2 then .gone else .row e sz m)::BU r
 |s::r=>s::BU r
def eU:Nat→List IQ→List (Nat×Nat)
 |_,[]=>[]
 |l,.var _::r=>(l,l)::eU (l+1) r
 |l,.mp _::r=>(l,l)::eU (l+1) r
 |l,.row _ _ m::r=>bif Nat.beq m 1 then (l,l)::eU (l+1) r else eU (l+1) r
 |l,.gone::r=>eU (l+1) r
def VY (P:Program):Nat→List TypeId→List SV×List IQ
 |_,[]=>([],[])
 |l,t::ts=>
  match oI P t with
  |some e=>match VY P (l+1) ts with|(a,b)=>(.row l::a,.row e (cA P e) 0::b)
  |none=>match VY P l ts with|(a,b)=>(.d (.leaf (kF P t))::a,b)
def QV (P:Program)(dres:Nat→Nat):Nat→Nat→List TypeId→List (Nat×SV)×List IQ
 |_,_,[]=>([],[])
 |i,l,t::ts=>
  bif Nat.beq (dres i) 2 then
   (match VY P l (NF P 8 t) with
   |(cs,os)=>match QV P dres (i+1) (l+os.length) ts with|(a,b)=>((i,.agg cs)::a,os++b))
  else
  match (match oI P t with|some e=>bif Nat.beq (dres i) 1 then none else some e|none=>none) with
  |some e=>match QV P dres (i+1) (l+1) ts with|(a,b)=>((i,.row l)::a,.row e (cA P e) 0::b)
  |none=>match QV P dres (i+1) l ts with|(a,b)=>((i,.d (zF P t))::a,b)
def oB (P:Program)(dres:Nat→Nat)(ts:List TypeId)(sk:Sk):Sk:=
 match QV P dres 0 sk.objs.length ts with
 |(a,b)=>⟨a,BU sk.objs++b⟩
def kA (P:Program)(st:St):List ResultVar→List V
 |[]=>[]
 | .tmp t::r=>st.t t::kA P st r
 | .cell a t::r=>
  (match st.t a with
   | .ptr o off=>match st.h o with
    |some (.var cs)=>bif X7 P t then aY3 ((cs.drop off).take (cA P t)) else (cs[off]?).getD .top
    |_=> .top
   |_=> .top)::kA P st r
def SM:List V→Nat→V
 |[],_=> .top
 |v::r,x=>bif Nat.beq x 0 then v else SM r (x-1)
def wK (P:Program)(st:St):List ResultVar→Bool
 |[]=>true
 | .tmp _::r=>wK P st r
 | .cell a t::r=>
  (match st.t a with
   | .ptr o off=>match st.h o with
    |some (.var cs)=>IV P t&&(bif X7 P t then Nat.ble (off+cA P t) cs.length else Nat.blt off cs.length)
    |_=>false
   |_=>false)&&wK P st r
def WM:Nat→List (Nat×SV)→Bool
 |_,[]=>true
 |i,(j,_)::r=>Nat.beq i j&&WM (i+1) r
def finish (P:Program)(rs:List ResultVar)(I6:Sk)(pre:List (Nat×Nat))(st:St):Out:=
 bif wK P st rs&&WM 0 I6.slots&&Nat.beq I6.slots.length rs.length then
 (match WK I6 pre ⟨SM (kA P st rs),st.h,st.m⟩ with
 |some c=>some (true,c.ds)
 |none=>none) else none
def xT (f:Nat→Nat):V→V
 | .ptr o off=> .ptr (f o) off
 | .row o=> .row (f o)
 | .mp o=> .mp (f o)
 |v=>v
def YO (f:Nat→Nat):V→V
 | .fn g b=> .fn g (b.map (xT f))
 | .agg cs=> .agg (cs.map (xT f))
 | .bp t o off=> .bp t (f o) off
 |v=>xT f v
def EE (f:Nat→Nat):Ob→Ob
 | .var cs=> .var (cs.map (YO f))
 |ob=>ob
def DP (ren pre:List (Nat×Nat))(nid:Nat)(l:Nat):Nat:=
 match W4 pre l with
 |some _=>(W4 ren l).getD 0
 |none=>nid+l
def rU (sk:Sk)(ren pre:List (Nat×Nat))(h:Nat→Option Ob):Nat→List IQ→Nat→Option Ob
 |_,[]=>h
 |l,.row ..::r=>fun x=>bif (match W4 pre l with|some _=>false|none=>(match W4 ren l with|some o=>Nat.beq x o|none=>false)) then none else rU sk ren pre h (l+1) r x
 |l,_::r=>rU sk ren pre h (l+1) r
def qB (f:Nat→Nat)(h' h:Nat→Option Ob):Nat→List IQ→Nat→Option Ob
 |_,[]=>h
 |l,.gone::r=>qB f h' h (l+1) r
 |l,_::r=>fun x=>bif Nat.beq x (f l) then (match h' l with|some ob=>some (EE f ob)|none=>none) else qB f h' h (l+1) r x
def rO (f:Nat→Nat)(t:Nat→V):List (Nat×SV)→List V
 |[]=>[]
 |(i,_)::r=>YO f (t i)::rO f t r
def XW:List V→V
 |[v]=>v
 |b=> .tup b
def merge (sk I6:Sk)(ren pre:List (Nat×Nat))(nid:Nat)(st:St)(ds:List D):V×St:=
 let f:=DP ren pre nid
 match fD I6 ds with
 |⟨t,h',_⟩=>(XW (rO f t I6.slots),{ st with h:=qB f h' (rU sk ren pre st.h 0 sk.objs) 0 I6.objs })
def wD:tH→Bool
 | .bool=>true
 | .int _=>true
 | .str=>true
 |_=>false
def NJ:Ty→Bool
 | .leaf t=>wD t
 | .agg ts=>ts.all wD
def YJ:D→Bool
 | .bool _=>true
 | .int _ _=>true
 | .str _=>true
 | .agg cs=>cs.all fun | .bool _=>true | .int _ _=>true | .str _=>true|_=>false
 |_=>false
def BX:SV→Bool
 | .d t=>NJ t
 | .fn _ []=>true
 | .agg _=>false
 | .fn _ _=>false
 |_=>true
def CY:SV→Bool
 | .agg ss=>ss.all BX
 | .fn _ ss=>ss.all BX
 |s=>BX s
def CZ (P:Program)(sk:Sk):Bool:=
 sk.slots.all (fun p=>CY p.2)&&sk.objs.all fun | .var ss=>ss.all CY | .row e _ _=>NJ (zF P e) | .gone=>true | .mp _=>false
def M4 (b:Sk)(ds:List D):Bool:=ds.all fun | .Z _ xs=>xs.all YJ|_=>true
def J3 {R:Type}(r:Out)(k:List D→Option R):Option R:=match r with|some (true,ds)=>k ds|_=>none
def gM (r:Out)(k:List D→Out):Out:=match r with|some (true,ds)=>some (true,ds)|some (false,ds)=>k ds|none=>none
def gY (P:Program)(own:Nat→Nat)(nid:Nat):Nat→List TypeId→List V→(Nat→Option Ob)→List V×(Nat→Option Ob)
 |i,t::ts,.d (.nils a b)::r,h=>
  match oI P t with
  |some e=>bif Nat.beq (own i) 0 then (match gY P own nid (i+1) ts r h with|(c,h')=>(.d (.Z (cA P e) [])::c,h'))
    else bif Nat.blt 0 (cA P e) then (match gY P own nid (i+1) ts r (fun x=>bif Nat.beq x (nid+16+i) then some (.row e (cA P e) [] false) else h x) with|(c,h')=>(.row (nid+16+i)::c,h'))
    else (match gY P own nid (i+1) ts r h with|(c,h')=>(.d (.nils a b)::c,h'))
  |none=>match gY P own nid (i+1) ts r h with|(c,h')=>(.d (.nils a b)::c,h')
 |i,_::ts,v::r,h=>match gY P own nid (i+1) ts r h with|(c,h')=>(v::c,h')
 |_,[],r,h=>(r,h)
 |_,_,[],h=>([],h)
def wZ {R:Type}(c:sN)(rec:Task→Out)(no:Bool)(f:Nat)(b:List V)(nid:Nat)(st0:St)(K:V→St→Option R):Option R:=
 match c.P.funcs[f]? with
 |none=>none
 |some fn=>
  bif !(fn.body.isSome&&Nat.ble fn.params.size 16) then none else
  match gY c.P (c.own f) nid 0 fn.params.toList b st0.h with
  |(args,h0)=>
  let st:St:={ st0 with h:=h0 }
  let sk:=OT st.h (c.own f) args
  match WK sk [] ⟨SM args,st.h,st.m⟩ with
  |none=>none
  |some cf=>
   bif no&&(c.SQ f sk cf.ds).isSome then none else
   J3 (rec (.call f sk cf.ds)) fun ds=>
    let I6:=oB c.P (c.dres f) fn.resultTypes.toList sk
    bif !(Nat.ble I6.objs.length 16) then none else
    bif cf.fz.isEmpty then
     (bif Q5 I6 ds then (match merge sk I6 cf.ren (eU 0 sk.objs) nid st ds with|(v,st')=>K v st') else none)
    else bif CZ c.P I6 then
     (bif Q5 I6 ds&&M4 I6 ds then (match merge sk I6 cf.ren (eU 0 sk.objs) nid st ds with|(v,st')=>K v st') else none)
    else
     (bif Q5 I6 ds then (match merge sk I6 cf.ren (eU 0 sk.objs) nid (st.freeze cf.fz) ds with|(v,st')=>K v st') else none)
def tY:D→D→Bool
 | .int _ a,.int _ b=>a==b
 | .str a,.str b=>a==b
 | .bool a,.bool b=>a==b
 |_,_=>false
def fB:List D→List D→Bool
 |a::zs,b::bs=>tY a b&&fB zs bs
 |_,_=>true
def Z5:Nat:=4611686018427387904
def LH {R:Type}(op:BinOp)(k:IntKind)(a b:Int)(K:D→Option R):Option R:=
 match op with
 | .add=>K (.int k (k.wrap (a+b)))
 | .sub=>K (.int k (k.wrap (a-b)))
 | .mul=>K (.int k (k.wrap (a*b)))
 | .quo=>bif decide (b=0) then none else K (.int k (k.wrap (a.tdiv b)))
 | .rem=>bif decide (b=0) then none else K (.int k (a.tmod b))
 | .and=>K (.int k (k.wrap (BitVec.ofInt k.bits a &&& BitVec.ofInt k.bits b).toNat))
 | .or=>K (.int k (k.wrap (BitVec.ofInt k.bits a ||| BitVec.ofInt k.bits b).toNat))
 | .xor=>K (.int k (k.wrap (BitVec.ofInt k.bits a ^^^ BitVec.ofInt k.bits b).toNat))
 | .andNot=>K (.int k (k.wrap (BitVec.ofInt k.bits a &&& ~~~BitVec.ofInt k.bits b).toNat))
 | .eql=>K (.bool (a==b))
 | .neq=>K (.bool (a !=b))
 | .lss=>K (.bool (decide (a<b)))
 | .leq=>K (.bool (decide (a≤b)))
 | .gtr=>K (.bool (decide (a>b)))
 | .geq=>K (.bool (decide (a≥b)))
 |_=>none
def MC {R:Type}(op:BinOp)(a b:G1)(K:D→Option R):Option R:=
 match op with
 | .add=>bif decide (a.length+b.length≤Z5) then K (.str (a++b)) else none
 | .eql=>K (.bool (a==b))
 | .neq=>K (.bool (!(a==b)))
 | .lss=>K (.bool (Op.bytesLess a b))
 | .leq=>K (.bool (Op.bytesLess a b||a==b))
 | .gtr=>K (.bool (!(Op.bytesLess a b||a==b)))
 | .geq=>K (.bool (!(Op.bytesLess a b)))
 |_=>none
def PD (JK:TypeId→Option (List tH))(P:Program):Nat→List Field→Option (List tH)
 |_,[]=>some []
 |off,f::fs=>
  match JK f.type with
  |some ts=>bif decide (f.name≠"_")&&Nat.beq f.offset off&&Nat.beq (cA P f.type) ts.length&&IV P f.type then
    (match PD JK P (off+ts.length) fs with|some r=>some (ts++r)|none=>none) else none
  |none=>none
def JK (P:Program):Nat→TypeId→Option (List tH)
 |0,_=>none
 |n+1,t=>
  match P.underlying t with
  |some .bool=>some [.bool]
  |some (.int k)=>some [.int k]
  |some .string=>some [.str]
  |some (.struct fs)=>bif P.stoodInHeld t then none else PD (JK P n) P 0 fs.toList
  |_=>none
def AB {R:Type}(P:Program)(op:BinOp)(t:TypeId)(x y:D)(K:D→Option R):Option R:=
 match x,y with
 | .int k a,.int c b=>
  match op with
  | .shl=>bif decide (b<0) then none else K (.int k (k.wrap (a*2 ^ (min b.toNat k.bits))))
  | .shr=>bif decide (b<0) then none else K (.int k (a.fdiv (2 ^ (min b.toNat k.bits))))
  |op=>bif decide (k=c) then LH op k a b K else none
 | .str a,.str b=>MC op a b K
 | .bool a,.bool b=>
  match P.underlying t with
  |some .bool=>(match op with
   | .eql=>K (.bool (a==b))
   | .neq=>K (.bool (!(a==b)))
   |_=>none)
  |_=>none
 | .agg zs,.agg bs=>
  bif X7 P t&&!(P.eqGuardType P.depth t)&&(match JK P 8 t with|some ts=>aT ts zs&&aT ts bs|none=>false) then
   (match op with
   | .eql=>K (.bool (fB zs bs))
   | .neq=>K (.bool (!(fB zs bs)))
   |_=>none)
  else none
 | .Z _ xs,.nils _ _=>
  bif gZ P t then
   (match op with
   | .eql=>bif xs.isEmpty then K .ub else K (.bool false)
   | .neq=>bif xs.isEmpty then K .ub else K (.bool true)
   |_=>none)
  else none
 | .nils _ _,.nils _ _=>
  bif gZ P t then
   (match op with
   | .eql=>K (.bool true)
   | .neq=>K (.bool false)
   |_=>none)
  else none
 |_,_=>none
def MF {R:Type}(op:UnOp)(x:D)(K:D→Option R):Option R:=
 match op,x with
 | .neg,.int k n=>K (.int k (k.wrap (0-n)))
 | .xor,.int k n=>K (.int k (k.wrap (BitVec.ofInt k.bits (if k.signed then -1 else k.max) ^^^ BitVec.ofInt k.bits n).toNat))
 | .not,.bool b=>K (.bool (!b))
 |_,_=>none
def toByte:D→UInt8
 | .int _ n=>UInt8.ofNat n.toNat
 |_=>0
def zO:List D→Bool
 |[]=>true
 | .int .u8 _::r=>zO r
 |_=>false
def L9:Nat:=68719476736
def R0 (st:St):Operand→V
 | .tmp t=>st.t t
 | .const v=> .d (WN v)
 | .func f=> .d (.fn f)
 | .global _=> .top
def force {R:Type}(v:V)(K:V→Option R):Option R:=
 match v with
 | .d x=>K (.d x)
 | .ptr o f=>K (.ptr o f)
 | .el sz xs i f=>K (.el sz xs i f)
 | .rp o sz i f=>K (.rp o sz i f)
 | .row o=>K (.row o)
 | .sub o sz e n=>K (.sub o sz e n)
 | .agg cs=>K (.agg cs)
 | .fn f b=>K (.fn f b)
 | .tup c=>K (.tup c)
 | .mp o=>K (.mp o)
 | .bp t o f=>K (.bp t o f)
def newRow (st:St)(o e sz:Nat)(xs:List D):St:=st.nM o (some (.row e sz xs false))
def newVar (st:St)(o:Nat)(cs:List V):St:=st.nM o (some (.var cs))
def dA:Ty→Bool
 | .leaf .any=>false
 |_=>true
def typed {R:Type}(ty:Ty)(x:D)(K:D→Option R):Option R:=bif dA ty&&kX ty x then K (K4 ty x) else none
def zA (x:D)(off n:Nat)(agg:Bool):D:=bif agg then .agg ((x.cells.drop off).take n) else x.at_ off
def NY:D→Bool
 | .agg _=>true
 |_=>false
def aI4 (x:D)(off:Nat)(y:D):D:= .agg (setAt x.cells off y.cells)
def LP {R:Type}(P:Program)(t:TypeId)(p:V)(st:St)(K:V→St→Option R):Option R:=
 let n:=cA P t
 let g:=X7 P t
 bif !(IV P t) then none else
 match p with
 | .ptr o off=>
  match st.h o with
  |some (.var cs)=>bif g then (bif Nat.ble (off+n) cs.length then K (aY3 ((cs.drop off).take n)) st else none) else (match cs[off]? with|some v=>force v fun v=>K v st|none=>none)
  |_=>none
 | .el sz xs i off=>bif Nat.beq off 0&&Nat.beq n sz then typed (zF P t) (xs[i]?.getD .top) fun x=>K (.d x) st
   else bif Nat.ble (off+n) sz then (bif NY (xs[i]?.getD .top) then typed (zF P t) (zA (xs[i]?.getD .top) off n g) fun x=>K (.d x) st else none) else none
 | .rp o sz i off=>
  match st.h o with
  |some (.row _ b xs _)=>bif Nat.beq sz b then
    (bif Nat.beq off 0&&Nat.beq n sz then typed (zF P t) (xs[i]?.getD .top) fun x=>K (.d x) st
    else bif Nat.ble (off+n) sz then (bif NY (xs[i]?.getD .top) then typed (zF P t) (zA (xs[i]?.getD .top) off n g) fun x=>K (.d x) st else none) else none) else none
  |_=>none
 |_=>none
def FH {R:Type}(P:Program)(t:TypeId)(o:Nat)(v:V)(st:St)(K:V→St→Option R):Option R:=
 match v with
 | .d (.nils _ _)=>match oI P t with
  |some e=>bif Nat.blt 0 (cA P e) then K (.row o) (newRow st o e (cA P e) []) else none
  |none=>none
 |v=>K v st
def KM {R:Type}(P:Program)(t:TypeId)(p v:V)(nid:Nat)(st:St)(K:V→St→Option R):Option R:=
 bif !(IV P t) then none else
 match p with
 | .ptr o off=>
  match st.h o with
  |some (.var cs)=>
   bif X7 P t then
    (bif gO v&&Nat.beq v.cells.length (cA P t)&&Nat.ble (off+v.cells.length) cs.length then K .top (st.nM o (some (.var (setAt cs off v.cells)))) else none)
   else
    bif oH v&&Nat.beq (cA P t) 1&&Nat.blt off cs.length then
     (bif Nat.beq cs.length 1 then FH P t nid v st fun v st=>K .top (st.nM o (some (.var (setAt cs off [v])))) else K .top (st.nM o (some (.var (setAt cs off [v])))))
    else none
  |_=>none
 | .rp o sz i off=>
  match st.h o with
  |some (.row e b xs false)=>
   bif Nat.beq sz b then
   (match aP1 (zF P t) st.h v with
   |some (x,fz)=>
    bif !(Ys x&&Nat.beq x.cells.length (cA P t)&&!(fz.any (Nat.beq o))) then none else
    bif Nat.beq off 0&&Nat.beq (cA P t) sz then K .top ((st.freeze fz).nM o (some (.row e sz (xs.set i x) false)))
    else bif Nat.ble (off+cA P t) sz then
     (bif kX (zF P e) (xs[i]?.getD .top)&&X7 P e&&Nat.beq (cA P e) sz then K .top ((st.freeze fz).nM o (some (.row e sz (xs.set i (aI4 (xs[i]?.getD .top) off x)) false))) else none)
    else none
   |none=>none) else none
  |_=>none
 |_=>none
def qW (P:Program)(t:TypeId)(ev:Operand→V):List V→List (Nat×Operand)→Option (List V)
 |cs,[]=>some cs
 |cs,(k,x)::r=>
  match EX P t k with
  |some (off,ft)=>bif gO (ev x)&&Nat.beq (ev x).cells.length (cA P ft)&&Nat.ble (off+cA P ft) cs.length then qW P t ev (setAt cs off (ev x).cells) r else none
  |none=>none
def VQ (P:Program)(t:TypeId):Option D:=match RT P t with|some z=>some (FG (zF P t) z)|none=>none
def wF (ty:Ty)(h:Nat→Option Ob)(ev:Operand→V)(sz:Nat):List D→List (Nat×Operand)→Option (List D×List Nat)
 |xs,[]=>some (xs,[])
 |xs,(k,x)::r=>match aP1 ty h (ev x) with
  |some (d,a)=>bif Nat.blt k xs.length&&Ys d&&Nat.beq d.cells.length sz then
    (match wF ty h ev sz (xs.set k d) r with|some (ys,b)=>some (ys,a++b)|none=>none) else none
  |none=>none
def PK (P:Program)(t:TypeId):Bool:=match P.underlying t with|some (.struct fs)=>fs.toList.all fun f=>(P.info? f.type).isSome|_=>false
def MZ (P:Program)(e:TypeId):Bool:=match P.info? e with|some i=>Nat.ble i.bytes 2048&&Nat.blt 0 i.size&&(match i.zero with|some z=>Nat.beq z.cells.size i.size|none=>false)|none=>false
def CH {R:Type}(P:Program)(t:TypeId)(s x:V)(nid:Nat)(st:St)(K:V→St→Option R):Option R:=
 match oI P t with
 |none=>none
 |some e=>
  let sz:=cA P e
  match QL st.h x with
  |none=>none
  |some (c,ys)=>
   bif MZ P e&&(Nat.beq sz c||ys.isEmpty) then
    (match s with
    | .d (.nils _ _)=>bif Nat.ble ys.length L9 then K (.row nid) (newRow st nid e sz ys) else none
    | .row o=>
     match st.h o with
     |some (.row f b xs false)=>bif Nat.beq e f&&Nat.beq sz b then
       (bif Nat.ble (xs.length+ys.length) L9 then K (.row nid) (newRow (st.nM o none) nid e sz (xs++ys)) else none) else none
     |_=>none
    |_=>none)
   else none
def OR (P:Program)(e:TypeId):Bool:=match P.info? e with|some i=>Nat.beq i.size 1&&Nat.beq i.bytes 1&&(match i.zero with|some (.int .u8 n)=>n==0|_=>false)|none=>false
def vR {R:Type}(P:Program)(t:TypeId)(s:V)(x:G1)(nid:Nat)(st:St)(K:V→St→Option R):Option R:=
 match oI P t,s with
 |some e,.row o=>(match st.h o with
  |some (.row c sz xs false)=>bif Nat.beq e c&&Nat.beq sz 1&&Nat.beq (cA P e) 1&&Nat.ble (xs.length+x.length) L9&&OR P e then
    K (.row nid) (newRow (st.nM o none) nid e 1 (xs++x.map fun b=> .int .u8 (b.toNat:Int))) else none
  |_=>none)
 |_,_=>none
def QM {R:Type}(P:Program)(t:TypeId)(l c:V)(nid:Nat)(st:St)(K:V→St→Option R):Option R:=
 match oI P t,l,c with
 |some e,.d (.int .i64 n),.d (.int .i64 m)=>
  (match VQ P e with
  |some z=>bif MZ P e&&Ys z then
    (bif decide (0≤n)&&decide (n≤m)&&decide (m≤L9) then K (.row nid) (newRow st nid e (cA P e) (List.replicate n.toNat z)) else none) else none
  |none=>none)
 |_,_,_=>none
def TW {R:Type}(c:Program)(d x:V)(st:St)(K:V→St→Option R):Option R:=
 match d with
 | .row o=>match st.h o,QL st.h x with
  |some (.row e sz xs false),some (b,ys)=>
   bif Nat.beq sz 1&&(Nat.beq sz b||ys.isEmpty)&&(match x with | .row o'=>!(Nat.beq o o') | .sub o' _ _ _=>!(Nat.beq o o')|_=>true) then
    K (.d (.int .i64 (min ys.length xs.length:Nat))) (st.nM o (some (.row e sz (ys.take xs.length++xs.drop ys.length) false)))
   else none
  |_,_=>none
 |_=>none
def Bg {R:Type}(P:Program)(t:TypeId)(st:St)(x:V)(K:Int→Option R):Option R:=
 match P.underlying t with
 |some .string=>(match x with | .d (.str s)=>K s.length|_=>none)
 |some (.slice _)=>(match QL st.h x with|some (_,xs)=>K xs.length|none=>none)
 |some (.map _ _)=>(match x with | .mp o=>(match st.h o with|some (.mp _ xs)=>K xs.length|_=>none) | .d .nilm=>K 0|_=>none)
 |_=>none
def HB (k:D):List D→Option Nat
 |[]=>none
 |x::r=>bif tY k (x.at_ 0) then some 0 else (match HB k r with|some i=>some (i+1)|none=>none)
def Qq (k:D)(xs:List D):Bool:=match HB k xs with|some _=>true|none=>false
def getM (z k:D)(xs:List D):D:=match HB k xs with|some i=>(xs[i]?.getD .top).at_ 1|none=>z
def Sn (k v:D)(xs:List D):List D:=match HB k xs with|some i=>xs.set i (.agg [k,v])|none=>xs++[.agg [k,v]]
def Rh (P:Program)(t:TypeId):Option (TypeId×TypeId):=match P.underlying t with|some (.map k e)=>some (k,e)|_=>none
def LK:tH→Bool
 | .bool=>true
 | .int _=>true
 | .str=>true
 |_=>false
def xK {R:Type}(P:Program)(t:TypeId)(nid:Nat)(st:St)(K:V→St→Option R):Option R:=
 match Rh P t with
 |some (k,_)=>bif LK (kF P k) then K (.mp nid) (st.nM nid (some (.mp (kF P k) []))) else none
 |none=>none
def vA {R:Type}(P:Program)(t:TypeId)(x i:V)(ok:Bool)(st:St)(K:V→St→Option R):Option R:=
 match Rh P t,i with
 |some (k,e),.d b=>
  (match VQ P e,(match x with | .mp o=>(match st.h o with|some (.mp c xs)=>(bif tH.same c (kF P k) then some xs else none)|_=>none) | .d .nilm=>some []|_=>none) with
  |some z,some xs=>bif LK (kF P k)&&eO (kF P k) b then
    typed (zF P e) (getM z b xs) fun y=>(bif ok then K (.tup [.d y,.d (.bool (Qq b xs))]) st else K (.d y) st) else none
  |_,_=>none)
 |_,_=>none
def CU {R:Type}(P:Program)(t:TypeId)(x i y:V)(st:St)(K:V→St→Option R):Option R:=
 match Rh P t,i,x with
 |some (k,e),.d c,.mp o=>
  (match st.h o,aP1 (zF P e) st.h y with
  |some (.mp b xs),some (d,fz)=>bif tH.same b (kF P k)&&LK b&&eO b c&&Nat.ble xs.length L9 then
    K .top ((st.freeze fz).nM o (some (.mp b (Sn c d xs)))) else none
  |_,_=>none)
 |_,_,_=>none
def rH (d:Int):Option V→Option Int
 |none=>some d
 |some (.d (.int _ n))=>some n
 |_=>none
def CB {R:Type}(P:Program)(t:TypeId)(x:V)(b c f:Option V)(st:St)(K:V→St→Option R):Option R:=
 match f with
 |some _=>none
 |none=>
  bif !(match P.underlying t,x with|some .string,.d (.str _)=>true|some (.slice e),.d (.Z sz _)=>IV P e&&Nat.beq sz (cA P e)|some (.slice e),.row _=>IV P e|_,_=>false) then none else
  match x with
  | .d (.str s)=>
   (match rH 0 b,rH s.length c with
   |some l,some h=>bif decide (0≤l)&&decide (l≤h)&&decide (h≤s.length) then K (.d (.str ((s.drop l.toNat).take (h.toNat-l.toNat)))) st else none
   |_,_=>none)
  | .d (.Z sz xs)=>
   (match rH 0 b,rH xs.length c with
   |some l,some h=>bif decide (0≤l)&&decide (l≤h)&&decide (h≤xs.length) then K (.d (.Z sz ((xs.drop l.toNat).take (h.toNat-l.toNat)))) st else none
   |_,_=>none)
  | .row o=>
   match st.h o with
   |some (.row i sz xs _)=>bif !(match P.underlying t with|some (.slice e)=>Nat.beq e i&&Nat.beq sz (cA P e)|_=>false) then none else (match rH 0 b,rH xs.length c with
    |some l,some h=>bif decide (0≤l)&&decide (l≤h)&&decide (h≤xs.length) then K (.sub o sz l.toNat (h.toNat-l.toNat)) st else none
    |_,_=>none)
   |_=>none
  |_=>none
def mY {R:Type}(P:Program)(t:TypeId)(x i:V)(st:St)(K:V→St→Option R):Option R:=
 bif !(match oI P t,x with|some e,.d (.Z sz _)=>IV P e&&Nat.beq sz (cA P e)|some e,.row o=>IV P e&&(match st.h o with|some (.row _ sz _ _)=>Nat.beq sz (cA P e)|_=>false)|some e,.sub _ sz _ _=>IV P e&&Nat.beq sz (cA P e)|_,_=>false) then none else
 match i with
 | .d (.int _ n)=>
  match x with
  | .d (.Z sz xs)=>bif decide (0≤n)&&decide (n<xs.length) then K (.el sz xs n.toNat 0) st else none
  | .row o=>match st.h o with
   |some (.row _ sz xs _)=>bif decide (0≤n)&&decide (n<xs.length) then K (.rp o sz n.toNat 0) st else none
   |_=>none
  | .sub o z b m=>match st.h o with
   |some (.row _ sz _ _)=>bif Nat.beq z sz&&decide (0≤n)&&decide (n<m) then K (.rp o sz (b+n.toNat) 0) st else none
   |_=>none
  |_=>none
 |_=>none
def rZ {R:Type}(c:sN)(t:TypeId)(x:Operand)(f b:V)(st:St)(K:V→St→Option R):Option R:=
 match x with
 | .global n=>(match c.glob n,c.P.underlying t,b with
  |some xs,some (.array len e),.d (.int _ m)=>bif IV c.P e&&Nat.beq (cA c.P e) 1&&Nat.beq len xs.length&&decide (0≤m)&&decide (m<(xs.length:Int)) then K (.el 1 xs m.toNat 0) st else none
  |_,_,_=>none)
 |_=>mY c.P t f b st K
def OJ (c:sN)(t nid:Nat)(cs:List V)(h:Nat→Option Ob):Option (List V×(Nat→Option Ob)):=
 match c.bld t with
 |none=>some (cs,h)
 |some off=>(match cs[off]?,cs[off+1]? with
  |some (.d .nilp),some (.d (.nils e sz))=>bif Nat.blt 0 sz then some ((cs.set off (.bp t nid off)).set (off+1) (.row (nid+1)),fun x=>bif Nat.beq x (nid+1) then some (.row e sz [] false) else h x) else none
  |_,_=>none)
def OK {R:Type}(c:sN)(t nid:Nat)(cs:List V)(st:St)(K:V→St→Option R):Option R:=
 match OJ c t nid cs st.h with
 |some (cs',h')=>K (.ptr nid 0) (newVar { st with h:=h' } nid cs')
 |none=>none
def vC:List D→Bool
 |[]=>true
 | .int .u8 n::r=>decide (0≤n)&&decide (n<256)&&vC r
 |_=>false
def P0 (s:G1):List D:=s.map fun b=> .int .u8 (b.toNat:Int)
def Tj (c:sN)(g:Nat)(args:List V)(st:St):Option (Bool×V×St):=
 match args with
 |[.ptr o off]=>(match st.h o with
  |some (.var cs)=>(match cs[off]? with
   |some (.bp t o' f)=>bif Nat.beq o' o&&Nat.beq f off&&(match c.bld t with|some k=>Nat.beq k off|none=>false)&&Nat.beq cs.length (cA c.P t) then
     (bif c.cc g then some (true,.tup [],st)
     else bif c.bstr g then (match cs[off+1]? with
      |some (.row r)=>(match st.h r with
       |some (.row e sz xs false)=>some (vC xs&&Nat.beq sz 1&&Nat.beq e c.bty,.d (.str (xs.map toByte)),st.nM r none)
       |_=>none)
      |_=>none)
     else none) else none
   |_=>none)
  |_=>none)
 |_=>none
def TT {R:Type}(c:sN)(rec:Task→Out)(f:V)(args:List V)(nid:Nat)(st:St)(K:V→St→Option R):Option R:=
 match f with
 | .d (.fn g)=>match Tj c g args st with
  |some (b,v,st')=>bif b then K v st' else none
  |none=>match (match VZ args with|some ds=>c.ext g ds|none=>none) with
  |some (b,r)=>bif b then K (XW (r.map V.d)) st else none
  |none=>wZ c rec false g args nid st K
 | .fn g e=>wZ c rec false g (args++e) nid st K
 |_=>none
def tP {R:Type}(c:sN)(b:Builtin)(ts:Array TypeId)(args:List V)(nid:Nat)(st:St)(K:V→St→Option R):Option R:=
 match b,args with
 | .len,[x]=>(match ts[0]? with|some t=>Bg c.P t st x fun n=>K (.d (.int .i64 n)) st|none=>none)
 | .append,[s,x]=>(match ts.toList with
  |[t,i]=>bif Nat.beq t i then CH c.P t s x nid st K
    else bif (match c.P.underlying i with|some .string=>true|_=>false) then (match x with | .d (.str j)=>vR c.P t s j nid st K|_=>none) else none
  |_=>none)
 | .copy,[d,x]=>(match ts.toList with
  |[t,_]=>(match oI c.P t with
   |some e=>bif IV c.P e&&Nat.beq (cA c.P e) 1 then TW c.P d x st K else none
   |none=>none)
  |_=>none)
 | .max,[.d (.int k a),.d (.int f b)]=>bif decide (k=f) then K (.d (.int k (max a b))) st else none
 | .min,[.d (.int k a),.d (.int f b)]=>bif decide (k=f) then K (.d (.int k (min a b))) st else none
 |_,_=>none
def Nk {R:Type}(c:sN)(rec:Task→Out)(o:Oper)(nid:Nat)(st:St)(K:V→St→Option R):Option R:=
 let ev:=R0 st
 match o.op with
 | .move x=>force (ev x) fun v=>K v st
 | .assign x=>force (ev x) fun v=>match v with
  | .d (.nils _ _)=>bif gZ c.P o.type then FH c.P o.type nid v st K else K v st
  |v=>K v st
 | .pick x a b=>(match ev x with
  | .d (.bool t)=>bif t then force (ev a) (fun v=>K v st) else force (ev b) (fun v=>K v st)
  |_=>none)
 | .alloc t=>(match RT c.P t with
  |some z=>bif gO (.d z) then (bif gZ c.P t then FH c.P t (nid+1) (.d z) st fun v st=>K (.ptr nid 0) (newVar st nid v.cells) else OK c t nid (V.d z).cells st K) else none
  |none=>none)
 | .box t x=>bif !(gO (ev x)) then none else bif gZ c.P t then FH c.P t (nid+1) (ev x) st fun v st=>K (.ptr nid 0) (newVar st nid v.cells)
   else bif Nat.beq (ev x).cells.length (cA c.P t) then OK c t nid (ev x).cells st K else none
 | .build t ps=>(match RT c.P t with
  |some z=>bif !(gO (.d z)&&PK c.P t) then none else (match qW c.P t ev (V.d z).cells ps.toList with
   |some cs=>K (aY3 cs) st
   |none=>none)
  |none=>none)
 | .buildSlice t n ps=>(match oI c.P t with
  |some e=>(match VQ c.P e with
   |some z=>bif Nat.blt 0 (cA c.P e)&&IV c.P e&&Nat.ble (n*cA c.P e) 16777216&&Ys z&&Nat.beq z.cells.length (cA c.P e) then
     (match wF (zF c.P e) st.h ev (cA c.P e) (List.replicate n z) ps.toList with
     |some (xs,fz)=>K (.row nid) (newRow (st.freeze fz) nid e (cA c.P e) xs)
     |none=>none) else none
   |none=>none)
  |none=>none)
 | .load t p=>LP c.P t (ev p) st K
 | .store t p x=>KM c.P t (ev p) (ev x) nid st K
 | .nilCheck x=>(match ev x with
  | .ptr q f=>K (.ptr q f) st
  | .el sz xs i f=>K (.el sz xs i f) st
  | .rp q sz i f=>K (.rp q sz i f) st
  | .d (.fn f)=>K (.d (.fn f)) st
  | .fn f j=>K (.fn f j) st
  |_=>none)
 | .binOp op t x y _=>(match ev x,ev y with
  | .d a,.d b=>AB c.P op t a b fun z=>K (.d z) st
  |_,_=>none)
 | .unOp op _ x=>(match ev x with
  | .d a=>MF op a fun z=>K (.d z) st
  |_=>none)
 | .convert src dst x=>(match c.P.underlying src,c.P.underlying dst,ev x with
  |some (.int _),some (.int k),.d (.int _ n)=>K (.d (.int k (k.wrap n))) st
  |some (.int _),some .string,.d (.int _ n)=>bif decide (0≤n)&&decide (n<128) then K (.d (.str [UInt8.ofNat n.toNat])) st else none
  |some .string,some .string,.d (.str s)=>K (.d (.str s)) st
  |some (.slice e),some .string,x=>(match c.P.underlying e with
   |some (.int .u8)=>(match QL st.h x with
    |some (_,xs)=>bif zO xs then K (.d (.str (xs.map toByte))) st else none
    |none=>none)
   |_=>none)
  |_,_,_=>none)
 | .makeFunc (.func f) first captured=>bif captured.isEmpty&&first.isEmpty then K (.d (.fn f)) st else bif first.isEmpty then K (.fn f (captured.toList.map fun x=>pY (ev x))) st else none
 | .fieldAddr t x k=>(match EX c.P t k with
  |some (off,ft)=>bif Nat.blt 0 (cA c.P ft)&&IV c.P ft then (match ev x with
   | .ptr q f=>K (.ptr q (f+off)) st
   | .el sz xs i f=>K (.el sz xs i (f+off)) st
   | .rp q sz i f=>K (.rp q sz i (f+off)) st
   |_=>none) else none
  |none=>none)
 | .field t x k=>(match EX c.P t k with
  |some (off,ft)=>bif !(IV c.P ft) then none else (match ev x with
   | .d (.agg cs)=>bif Nat.ble (off+cA c.P ft) cs.length then (bif X7 c.P ft then K (.d (.agg ((cs.drop off).take (cA c.P ft)))) st else (match cs[off]? with|some z=>K (.d z) st|none=>none)) else none
   | .agg cs=>bif Nat.ble (off+cA c.P ft) cs.length then (bif X7 c.P ft then K (aY3 ((cs.drop off).take (cA c.P ft))) st else (match cs[off]? with|some z=>K z st|none=>none)) else none
   |_=>none)
  |none=>none)
 | .indexAddr t x i=>rZ c t x (ev x) (ev i) st K
 | .index t x i=>(match c.P.underlying t,ev x,ev i with
  |some .string,.d (.str s),.d (.int _ n)=>bif decide (0≤n)&&decide (n<s.length) then K (.d (.int .u8 (s[n.toNat]?.getD 0).toNat)) st else none
  |_,_,_=>none)
 | .makeSlice t l m=>QM c.P t (ev l) (ev m) nid st K
 | .makeMap t r=>(match r with|none=>xK c.P t nid st K|some _=>none)
 | .lookup t x i ok=>vA c.P t (ev x) (ev i) ok st K
 | .mapUpdate t x i y=>CU c.P t (ev x) (ev i) (ev y) st K
 | .slice t x C D B=>CB c.P t (ev x) (C.map ev) (D.map ev) (B.map ev) st K
 | .extract x k=>(match ev x with
  | .tup A=>bif Nat.blt k A.length then force (SM A k) fun v=>K v st else none
  |_=>none)
 | .call q=>(match q.callee with
  | .value f=>TT c rec (ev f) (q.args.toList.map ev) nid st K
  | .builtin b=>tP c b q.argTypes (q.args.toList.map ev) nid st K
  |_=>none)
 |_=>none
def labels (pre:List (Nat×Nat)):List V→Option (List (Nat×Nat))
 |[]=>some []
 | .ptr o off::r=>match W4 pre o,labels pre r with|some o',some zs=>bif Nat.beq o o' then some ((o,off)::zs) else none|_,_=>none
 |_=>none
def WV (pre:List (Nat×Nat))(st:St)(o:Oper):Option (Nat×List (Nat×Nat)):=
 match o.op with
 | .defer q=>(match q.callee,o.guard,o.dst with
  | .value f,none,none=>(match R0 st f with
   | .d (.fn g)=>(match labels pre (q.args.toList.map (R0 st)) with|some zs=>some (g,zs)|none=>none)
   |_=>none)
  |_,_,_=>none)
 |_=>none
def SO (c:sN)(rec:Task→Out)(nt:Nat)(pre:List (Nat×Nat))(all:List Oper)(st0:Nat):Nat→List Oper→St→(St→Out)→Out
 |_,[],st,K=>K st
 |i,o::r,st,K=>
  match WV pre st o with
  |some d=>SO c rec nt pre all st0 (i+1) r { st with m:=⟨st.m.k,d::st.m.df⟩ } K
  |none=>
  let on (st:St):Out:=
   bif (match o.dst with|some d=>Nat.blt d nt|none=>true) then Nk c rec o (st0+32*i) st fun v st'=>SO c rec nt pre all st0 (i+1) r (st'.put o.dst v) K else none
  match o.guard with
  |none=>on st
  |some (j,want)=>
   match (all[j]?).bind (·.dst) with
   |none=>none
   |some d=>match st.t d with
    | .d .und=>bif (match o.dst with|some d=>Nat.blt d nt|none=>true) then SO c rec nt pre all st0 (i+1) r (st.put o.dst (.d .und)) K else none
    | .d (.bool b)=>bif b then
      (let st:=st.set d (.d (.bool true));bif want then on st else (bif (match o.dst with|some d=>Nat.blt d nt|none=>true) then SO c rec nt pre all st0 (i+1) r (st.put o.dst (.d .und)) K else none))
     else (let st:=st.set d (.d (.bool false));bif want then (bif (match o.dst with|some d=>Nat.blt d nt|none=>true) then SO c rec nt pre all st0 (i+1) r (st.put o.dst (.d .und)) K else none) else on st)
    |_=>none
def uG (x:Nat)(xs:List Nat):Bool:=xs.any (Nat.beq x)
def meets (xs ys:List Nat):Bool:=xs.any fun x=>uG x ys
def aG4:V→List Nat
 | .ptr o _=>[o]
 | .rp o _ _ _=>[o]
 | .row o=>[o]
 | .sub o _ _ _=>[o]
 | .mp o=>[o]
 |_=>[]
def aU2:V→List Nat
 | .agg cs=>cs.flatMap aG4
 | .fn _ cs=>cs.flatMap aG4
 |v=>aG4 v
def fV:List Operand→List Nat
 |[]=>[]
 | .tmp t::r=>t::fV r
 |_::r=>fV r
def SI:Op→Bool
 | .move _=>true
 | .assign _=>true
 | .pick ..=>true
 | .alloc _=>true
 | .box ..=>true
 | .build ..=>true
 | .load ..=>true
 | .nilCheck _=>true
 | .binOp ..=>true
 | .unOp ..=>true
 | .convert ..=>true
 | .makeFunc ..=>true
 | .fieldAddr ..=>true
 | .field ..=>true
 | .indexAddr ..=>true
 | .index ..=>true
 | .makeSlice ..=>true
 | .slice ..=>true
 | .makeMap ..=>true
 | .lookup ..=>true
 | .extract ..=>true
 | .call q=>match q.callee with
  | .builtin .len=>true
  | .builtin .max=>true
  | .builtin .min=>true
  |_=>false
 |_=>false
def aC6:Op→Bool
 | .call q=>match q.callee with
  | .value _=>true
  |_=>false
 |_=>false
def looks:Op→Bool
 | .load ..=>true
 | .store ..=>true
 | .indexAddr ..=>true
 | .slice ..=>true
 | .convert ..=>true
 | .buildSlice ..=>true
 | .call _=>true
 | .lookup ..=>true
 | .mapUpdate ..=>true
 |_=>false
def given (st:St)(o:Oper):List Nat:=
 bif !(looks o.op) then [] else
 let os:=qU [] ((fV o.op.operands.toList).flatMap fun t=>aU2 (st.t t))
 bif aC6 o.op then reach st.h 3 os else
 match o.op with
 | .store _ (.tmp t) _=>(match st.t t with | .ptr q _=>[q]|_=>os)
 |_=>os
structure vJ where
 temps:List Nat
 dst:Option Nat
 objs:List Nat
 writes:List Nat
def sJ (T F:List Nat)(st:St):St:=⟨fun t=>bif uG t T then st.t t else .top,fun o=>bif uG o F then st.h o else none,st.m⟩
def LF (nid o:Nat):Bool:=Nat.ble nid o&&Nat.blt o (nid+32)
def UJ (F:List Nat)(nid:Nat)(h h':Nat→Option Ob):Nat→Option Ob:=fun o=>bif uG o F||LF nid o then h' o else h o
def YC (d:Option Nat)(xs:List Nat):Bool:=match d with|some d=>uG d xs|none=>false
def OU (nid:Nat)(a b:vJ):Bool:=
 YC a.dst b.temps||YC b.dst a.temps||(match a.dst,b.dst with|some x,some y=>Nat.beq x y|_,_=>false)||meets a.writes b.objs||meets b.writes a.objs||b.objs.any (LF nid)
def rQ (st0:Nat)(ZD:List Nat)(b:vJ):Nat→List vJ→Bool
 |_,[]=>true
 |j,a::r=>(uG j ZD||!(OU (st0+32*j) a b))&&rQ st0 ZD b (j+1) r
def kN (e:Edge):Bool:=match e.ground with
 | .textOnly _=>false
 | .gcOnly _=>false
 |_=>true
def vQ (b:List (List Nat)):List Edge→List Nat
 |[]=>[]
 |e::r=>bif kN e then qU (qU [e.on] ((b[e.on]?).getD [])) (vQ b r) else vQ b r
def uQ (i:Nat):List Edge→Bool
 |[]=>true
 |e::r=>(!(kN e)||Nat.blt e.on i)&&uQ i r
def GX (c:sN)(rec:Task→Out)(nt:Nat)(all:List Oper)(st0:Nat):Nat→List Oper→List vJ→List (List Nat)→St→(St→Out)→Out
 |_,[],_,_,st,K=>K st
 |i,o::r,fs,e,st,K=>
  let ZD:=vQ e o.after.toList
  let T:=fV o.op.operands.toList
  let G:=match o.guard with|none=>[]|some (j,_)=>match (all[j]?).bind (·.dst) with|none=>[]|some d=>[d]
  let okd:=match o.dst with|some d=>Nat.blt d nt|none=>true
  let on (st:St):Out:=
   let F:=given st o
   let ft:vJ:=⟨T++G,o.dst,F,bif SI o.op then [] else F⟩
   bif okd&&uQ i o.after.toList&&rQ st0 ZD ft 0 fs&&F.all (fun x=>Nat.blt x (st0+32*i)) then
    Nk c rec o (st0+32*i) (sJ T F st) fun v st'=>GX c rec nt all st0 (i+1) r (fs++[ft]) (e++[ZD]) { st.put o.dst v with h:=UJ F (st0+32*i) st.h st'.h } K
   else none
  let off (st:St):Out:=
   let ft:vJ:=⟨G,o.dst,[],[]⟩
   bif okd&&uQ i o.after.toList&&rQ st0 ZD ft 0 fs then GX c rec nt all st0 (i+1) r (fs++[ft]) (e++[ZD]) (st.put o.dst (.d .und)) K else none
  match o.guard with
  |none=>on st
  |some (j,want)=>
   match (all[j]?).bind (·.dst) with
   |none=>none
   |some d=>match st.t d with
    | .d .und=>off st
    | .d (.bool b)=>bif b then (let st:=st.set d (.d (.bool true));bif want then on st else off st)
     else (let st:=st.set d (.d (.bool false));bif want then off st else on st)
    |_=>none
def agree:Out→Out→Out
 |some (a,xs),some (b,ys)=>bif (a==b)&&D.eqs xs ys then some (a,xs) else none
 |_,_=>none
def refine (st:St)(x:Operand)(b:Bool):St:=match x with | .tmp t=>st.set t (.d (.bool b))|_=>st
inductive Ex where
 |normal
 |ret
 |exit (id:Nat)
def aL8 (c:sN)(f:Nat):Operand→Code→List Nat
 | .tmp _,.skip=>[]
 | .tmp t,_=>c.cut f t
 |_,_=>[]
def exec (c:sN)(rec:Task→Out)(f nt:Nat)(I6:Sk)(pre:List (Nat×Nat)):Code→St→(Ex→St→Out)→Out
 | .skip,st,K=>K .normal st
 | .region _ ops draw,st,K=>bif draw then (bif c.P.follows .mixedOrders then GX c rec nt ops.toList st.n 0 ops.toList [] [] st fun st'=>K .normal { st' with m:=⟨st.n+32*ops.size,st'.m.df⟩ } else none)
   else SO c rec nt pre ops.toList st.n 0 ops.toList st fun st'=>K .normal { st' with m:=⟨st.n+32*ops.size,st'.m.df⟩ }
 | .seq a b,st,K=>exec c rec f nt I6 pre a st fun e st'=>match e with | .normal=>exec c rec f nt I6 pre b st' K|e=>K e st'
 | .cond x a b,st,K=>match aL8 c f x a with
  |t::ts=>
   let st:=VM st (pre.map (·.1)) (t::ts)
   let sk:=Rb st (pre.map (·.1)) (t::ts)
   match WK sk pre st with
   |some cf=>gM (rec (.loop f I6 pre st.m.df true 0 (.cond x a b) sk cf.ds)) fun ds=>bif Q5 sk ds then K .normal ((fD sk ds).later st.m.df) else none
   |none=>none
  |[]=>match R0 st x with
  | .d (.bool t)=>bif t then exec c rec f nt I6 pre a (refine st x true) K else exec c rec f nt I6 pre b (refine st x false) K
  | .d .ub=>agree (exec c rec f nt I6 pre a st K) (exec c rec f nt I6 pre b st K)
  |_=>none
 | .block id (.loop body),st,K=>
  let st:=VM st (pre.map (·.1)) (c.keep f id)
  let sk:=Rb st (pre.map (·.1)) (c.keep f id)
  match WK sk pre st with
  |some cf=>gM (rec (.loop f I6 pre st.m.df false id body sk cf.ds)) fun ds=>bif Q5 sk ds then K .normal ((fD sk ds).later st.m.df) else none
  |none=>none
 | .block id b,st,K=>exec c rec f nt I6 pre b st fun e st'=>match e with | .exit j=>bif Nat.beq j id then K .normal st' else K (.exit j) st'|e=>K e st'
 | .exit id,st,K=>K (.exit id) st
 | .ret,st,K=>K .ret st
 |_,_,_=>none
def Ey (c:sN)(rec:Task→Out)(f nt:Nat)(I6:Sk)(pre:List (Nat×Nat)):Code→St→(Ex→St→Out)→Out
 | .cond x a b,st,K=>match R0 st x with
  | .d (.bool t)=>bif t then exec c rec f nt I6 pre a (refine st x true) K else exec c rec f nt I6 pre b (refine st x false) K
  |_=>none
 |_,_,_=>none
def tA (c:sN)(rec:Task→Out)(rs:List ResultVar)(I6:Sk)(pre:List (Nat×Nat)):List (Nat×List (Nat×Nat))→St→Out
 |[],st=>finish c.P rs I6 pre st
 |(f,zs)::r,st=>wZ c rec true f (zs.map fun x=>V.ptr x.1 x.2) st.n st fun _ st'=>tA c rec rs I6 pre r { st' with m:=⟨st.n+32,st'.m.df⟩ }
def run (c:sN):Nat→Task→Out
 |0,_=>none
 |n+1,.call f sk ds=>
  match c.SQ f sk ds with
  |some r=>some (true,r)
  |none=>
   match c.P.funcs[f]? with
   |some fn=>(match fn.body with
    |some body=>
     let I6:=oB c.P (c.dres f) fn.resultTypes.toList sk
     let pre:=eU 0 sk.objs
     bif Q5 sk ds then exec c (run c n) f fn.ntmps I6 pre body (fD sk ds) fun e st=>match e with
      | .ret=>tA c (run c n) fn.results.toList I6 pre st.m.df st
      | .normal=>tA c (run c n) fn.results.toList I6 pre st.m.df st
      | .exit _=>none
     else none
    |none=>none)
   |none=>none
 |n+1,.loop f I6 pre df once id body sk ds=>
  match c.P.funcs[f]? with
  |some fn=>
   bif Q5 sk ds then (bif once then Ey c (run c n) f fn.ntmps I6 pre body ((fD sk ds).later df) else exec c (run c n) f fn.ntmps I6 pre body ((fD sk ds).later df)) fun e st=>match e with
    | .ret=>tA c (run c n) fn.results.toList I6 pre st.m.df st
    | .normal=>bif !(RD df st.m.df) then none else (match WK sk pre st with|some cf=>bif once then some (false,cf.ds) else run c n (.loop f I6 pre df once id body sk cf.ds)|none=>none)
    | .exit j=>bif Nat.beq j id&&!once&&RD df st.m.df then (match WK sk pre st with|some cf=>some (false,cf.ds)|none=>none) else none
   else none
  |none=>none
def Mv:List (Nat×List D)→Nat→Option (List D)
 |[],_=>none
 |(m,xs)::r,n=>bif Nat.beq n m then some xs else Mv r n
def Xi:List (Nat×Nat)→Nat→Option Nat
 |[],_=>none
 |(m,x)::r,n=>bif Nat.beq n m then some x else Xi r n
def aH6:List (Nat×Nat×Nat)→Nat→Nat→Nat
 |[],_,_=>0
 |(a,b,v)::r,x,y=>bif Nat.beq x a&&Nat.beq y b then v else aH6 r x y
def aH7:List (Nat×Nat×List Nat)→Nat→Nat→List Nat
 |[],_,_=>[]
 |(a,b,v)::r,x,y=>bif Nat.beq x a&&Nat.beq y b then v else aH7 r x y
def pT (id:Nat):Code→Option Code
 | .block j (.loop b)=>bif Nat.beq j id then some b else pT id b
 | .block _ b=>pT id b
 | .loop b=>pT id b
 | .seq a b=>match pT id a with|some c=>some c|none=>pT id b
 | .cond _ a b=>match pT id a with|some c=>some c|none=>pT id b
 | .scope b=>pT id b
 |_=>none
def rW (t:Nat):Code→Option Code
 | .cond x a b=>bif (match x,a with | .tmp _,.skip=>false | .tmp y,_=>Nat.beq y t|_,_=>false) then some (.cond x a b) else match rW t a with|some c=>some c|none=>rW t b
 | .block _ b=>rW t b
 | .loop b=>rW t b
 | .seq a b=>match rW t a with|some c=>some c|none=>rW t b
 | .scope b=>rW t b
 |_=>none
def Pk (c:sN)(f t:Nat):Code:=match c.P.funcs[f]? with|some fn=>(match fn.body with|some b=>(rW t b).getD .skip|none=> .skip)|none=> .skip
def Q6 (c:sN)(f id:Nat):Code:=match c.P.funcs[f]? with|some fn=>(match fn.body with|some b=>(pT id b).getD .skip|none=> .skip)|none=> .skip
end Go.AE
namespace Go.AE
def tS (h:Nat→Option Obj)(a:Addr):Option Value:=
 match h a.block with
 |some (.cells c _ _)=>if a.spot.isSome then none else c[a.off]?
 |_=>none
mutual
def VD (h:Nat→Option Obj):D→Value→Prop
 | .top,_=>True
 | .bool b,v=>v = .bool b
 | .int k n,v=>v = .int k n
 | .str s,v=>∃ b:ByteArray,v = .string b∧b.data.toList=s
 | .Z sz xs,v=>∃ A cap,v = .slice A xs.length cap∧xs.length≤cap∧cap≤maxLen∧(xs=[]∨∃ ad,A=some ad∧ZJ h sz xs ad)
 | .nils _ _,v=>v = .slice none 0 0
 | .und,v=>v=undef
 | .agg cs,v=>∃ us:Array Value,v = .agg us∧yW h cs us.toList
 | .fn f,v=>v = .func (.func f) #[] #[]
 | .nilp,v=>v = .pointer none
 | .nilf,v=>v = .nilFunc
 | .nilm,v=>v = .map none
 | .nili,v=>v = .nilIface
 | .ub,v=>∃ b,v = .bool b
 | .iface t x,v=>∃ u,v = .iface t u∧VD h x u
def yW (h:Nat→Option Obj):List D→List Value→Prop
 |[],us=>us=[]
 |x::xs,us=>∃ u r,us=u::r∧VD h x u∧yW h xs r
def ZJ (h:Nat→Option Obj)(sz:Nat):List D→Addr→Prop
 |[],_=>True
 |x::xs,ad=>(∃ v:Value,v.cells.size=sz∧(∀ j u,v.cells[j]? = some u→tS h (ad.add j)=some u)∧(∀ u∈v.cells.toList,u.oneCell'=true)∧VD h x v)∧ZJ h sz xs (ad.add sz)
end
def sO (h:Nat→Option Obj)(sz:Nat):List D→List Value→Prop
 |[],us=>us=[]
 |x::xs,us=>∃ (v:Value) (r:List Value),us=v.cells.toList++r∧v.cells.size=sz∧(∀ u∈v.cells.toList,u.oneCell'=true)∧VD h x v∧sO h sz xs r
structure G where
 h:Nat→Option Obj
 blk:Nat→Nat
 hdr:Nat→Value
inductive F2 {α β:Type} (r:α→β→Prop):List α→List β→Prop
 |nil:F2 r [] []
 |cons {a b zs bs}:r a b→F2 r zs bs→F2 r (a::zs) (b::bs)
def JR:Value→Nat | .slice _ n _=>n|_=>0
def VL (g:G):V→Value→Prop
 | .d x,v=>VD g.h x v
 | .ptr o off,v=>v = .pointer (some ⟨g.blk o,off,none⟩)
 | .el sz xs i off,v=>∃ ad,ZJ g.h sz xs ad∧i<xs.length∧v = .pointer (some (ad.add (i*sz+off)))
 | .rp o sz i off,v=>i<JR (g.hdr o)∧∃ b,(g.hdr o).ownBlock=some b∧v = .pointer (some ⟨b,i*sz+off,none⟩)
 | .row o,v=>v=g.hdr o∧v.oneCell'=true
 | .sub o sz c n,v=>c+n≤JR (g.hdr o)∧∃ A cap,v = .slice A n cap∧n≤cap∧cap≤maxLen∧(n=0∨∃ b,(g.hdr o).ownBlock=some b∧A=some ⟨b,c*sz,none⟩)
 | .agg _,_=>False
 | .fn f [],v=>v = .func (.func f) #[] #[]
 | .fn _ (_::_),_=>False
 | .tup _,_=>False
 | .mp o,v=>v = .map (some (g.blk o))
 | .bp _ o off,v=>v = .pointer none∨v = .pointer (some ⟨g.blk o,off,none⟩)
def VA (g:G):V→Value→Prop
 | .agg cs,v=>∃ us:Array Value,v = .agg us∧F2 (VL g) cs us.toList
 | .fn f (c::b),v=>∃ us:Array Value,v = .func (.func f) #[] us∧F2 (VL g) (c::b) us.toList
 |x,v=>VL g x v
def VV (g:G):V→Value→Prop
 | .tup b,v=>∃ us:Array Value,v = .tuple us∧F2 (VA g) b us.toList
 |x,v=>VA g x v
def OB (g:G)(o:Nat):Ob→World→Prop
 | .var cs,w=>∃ (c:Array Value) (e:TypeId),w.heap[g.blk o]? = some (.cells c e (0,0))∧F2 (VA g) cs c.toList∧(∀ u∈c.toList,u.oneCell'=true)∧(∀ t o' f,V.bp t o' f∈cs→e=t)
 | .mp d xs,w=>∃ (es:Array MapEntry) (clock:Nat),w.heap[g.blk o]? = some (.map es clock)∧F2 (fun x (m:MapEntry)=>VD g.h (x.at_ 0) m.key∧VD g.h (x.at_ 1) m.val∧eO d (x.at_ 0)=true) xs es.toList
 | .row e sz xs false,w=>∃ us,0<sz∧w.ownsRow 0 e sz (g.hdr o) xs.length us∧sO g.h sz xs us
 | .row _ sz xs true,_=>(g.hdr o = .slice none 0 0∧xs=[])∨∃ b cap,g.hdr o = .slice (some ⟨b,0,none⟩) xs.length cap∧xs.length≤cap∧cap≤maxLen∧ZJ g.h sz xs ⟨b,0,none⟩
def pC (g:G)(o:Nat):Ob→Option Nat
 | .var _=>some (g.blk o)
 | .row _ _ _ false=>(g.hdr o).ownBlock
 | .row _ _ _ true=>none
 | .mp _ _=>some (g.blk o)
def V.pF (p:Nat→Prop):V→Prop
 | .ptr o _=>p o
 | .rp o _ _ _=>p o
 | .row o=>p o
 | .sub o _ _ _=>p o
 | .mp o=>p o
 | .bp _ o _=>p o
 |_=>True
def V.bO (p:Nat→Prop):V→Prop
 | .agg cs=>∀ v∈cs,v.pF p
 | .fn _ b=>∀ v∈b,v.pF p
 | .tup _=>False
 |v=>v.pF p
def V.aU (p:Nat→Prop):V→Prop
 | .tup b=>∀ v∈b,v.bO p
 |v=>v.bO p
def Ob.aU (p:Nat→Prop):Ob→Prop
 | .var cs=>∀ v∈cs,v.bO p
 |_=>True
structure aS (u:Nat→Option Obj) (p:Nat→Prop) (g:G) (h:Nat→Option Ob) (w:World):Prop where
 frz:∀ b x,g.h b=some x→w.heap[b]? = some x
 unt:∀ b x,u b=some x→w.heap[b]? = some x
 ob:∀ o x,h o=some x→OB g o x w
 sep:∀ o x b,h o=some x→pC g o x=some b→g.h b=none∧u b=none
 inj:∀ o o' x x' b,h o=some x→h o'=some x'→pC g o x=some b→pC g o' x'=some b→o=o'
 use:∀ o x,h o=some x→p o∧x.aU p
 dj:∀ b,g.h b=none∨u b=none
structure aX5 (u:Nat→Option Obj) (p:Nat→Prop) (g:G) (st:St) (tm:Nat→Value) (w:World):Prop where
 hp:aS u p g st.h w
 tm:∀ t,VV g (st.t t) (tm t)
 nm:∀ t,(st.t t).aU p
structure Ext (g:G) (w:World) (g':G) (w':World):Prop where
 h:∀ b x,g.h b=some x→g'.h b=some x
 os:w'.os=w.os
 tape:w'.tape=w.tape
 output:w'.output=w.output
 size:w.heap.size≤w'.heap.size
def Ext.refl (g:G)(w:World):Ext g w g w:=⟨fun _ _ h=>h,rfl,rfl,rfl,B9 _⟩
def Ext.trans {g1 g2 e:G}{w1 d c:World}(a:Ext g1 w1 g2 d)(b:Ext g2 d e c):Ext g1 w1 e c:=⟨fun x y h=>b.h x y (a.h x y h),b.os.trans a.os,b.tape.trans a.tape,b.output.trans a.output,Nat.le_trans a.size b.size⟩
def tH.YU {a b:tH}(h:tH.same a b=true):a=b:=by cases a<;>cases b<;>simp_all [tH.same]
def F2.length {α β:Type}{r:α→β→Prop}{zs:List α}{bs:List β}(h:F2 r zs bs):zs.length=bs.length:=by
 induction h with
 |nil=>rfl
 |cons _ _ ih=>simp [ih]
def F2.mono {α β:Type}{r s:α→β→Prop}{zs:List α}{bs:List β}(h:F2 r zs bs)(hm:∀ a∈zs,∀ b,r a b→s a b):F2 s zs bs:=by
 induction h with
 |nil=>exact .nil
 |cons c _ ih=>exact .cons (hm _ (by simp) _ c) (ih fun a d=>hm a (by simp [d]))
def F2.get {α β:Type}{r:α→β→Prop}{zs:List α}{bs:List β}(h:F2 r zs bs):∀ (j:Nat) (a:α),zs[j]? = some a→∃ b,bs[j]? = some b∧r a b:=by
 induction h with
 |nil=>intro j a c;simp at c
 |cons d _ ih=>
  intro j a c
  cases j with
  |zero=>simp at c;subst c;exact⟨_,rfl,d⟩
  |succ j=>simpa using ih j a (by simpa using c)
def F2.append {α β:Type}{r:α→β→Prop}{zs b:List α}{bs c:List β}(h:F2 r zs bs)(h':F2 r b c):F2 r (zs++b) (bs++c):=by
 induction h with
 |nil=>exact h'
 |cons d _ ih=>exact .cons d ih
def F2.drop {α β:Type}{r:α→β→Prop}{zs:List α}{bs:List β}(h:F2 r zs bs):∀ n,F2 r (zs.drop n) (bs.drop n):=by
 induction h with
 |nil=>intro n;simp;exact .nil
 |cons c b ih=>
  intro n
  cases n with
  |zero=>exact .cons c b
  |succ n=>simpa using ih n
def F2.take {α β:Type}{r:α→β→Prop}{zs:List α}{bs:List β}(h:F2 r zs bs):∀ n,F2 r (zs.take n) (bs.take n):=by
 induction h with
 |nil=>intro n;simp;exact .nil
 |cons b _ ih=>
  intro n
  cases n with
  |zero=>simp;exact .nil
  |succ n=>simpa using F2.cons b (ih n)
def F2.set {α β:Type}{r:α→β→Prop}{zs:List α}{bs:List β}(h:F2 r zs bs){a:α}{b:β}(e:r a b):∀ n,F2 r (zs.set n a) (bs.set n b):=by
 induction h with
 |nil=>intro n;simp;exact .nil
 |cons c d ih=>
  intro n
  cases n with
  |zero=>exact .cons e d
  |succ n=>exact .cons c (ih n)
def F2.HU {α β γ:Type}{r:α→β→Prop}{f:γ→α}{cs:List γ}{bs:List β}(h:F2 (fun c b=>r (f c) b) cs bs):F2 r (cs.map f) bs:=by
 induction h with
 |nil=>exact .nil
 |cons d _ ih=>exact .cons d ih
def F2.LS {α β γ:Type}{r:α→β→Prop}{f:γ→α}:∀ {cs:List γ} {bs:List β},F2 r (cs.map f) bs→F2 (fun c b=>r (f c) b) cs bs
 |[],_,h=>by cases h;exact .nil
 |_::_,_,h=>by cases h with|cons e d=>exact .cons e (F2.LS d)
def mS (h:Nat→Option Obj):∀ (xs:List D) (us:List Value),yW h xs us↔F2 (VD h) xs us
 |[],us=>by simp only [yW];exact⟨fun e=>by subst e;exact .nil,fun e=>by cases e;rfl⟩
 |x::xs,us=>by
  simp only [yW];constructor
  ·rintro ⟨u,r,rfl,b,c⟩;exact .cons b ((mS h xs r).1 c)
  ·intro e
   cases e with
   |cons b c=>exact⟨_,_,rfl,b,(mS h xs _).2 c⟩
def KV {h h':Nat→Option Obj}(hh:∀ b x,h b=some x→h' b=some x){a:Addr}{v:Value}(e:tS h a=some v):tS h' a=some v:=by
 unfold tS at *
 cases hb:h a.block with
 |none=>simp [hb] at e
 |some x=>rw [hb] at e;rw [hh _ _ hb];exact e
mutual
def oO {h h':Nat→Option Obj}(hh:∀ b x,h b=some x→h' b=some x):∀ (x:D) (v:Value),VD h x v→VD h' x v
 | .top,_,_=>trivial
 | .bool _,_,e=>e
 | .int _ _,_,e=>e
 | .str _,_,e=>e
 | .nils _ _,_,e=>e
 | .und,_,e=>e
 | .fn _,_,e=>e
 | .nilp,_,e=>e
 | .nilf,_,e=>e
 | .nilm,_,e=>e
 | .nili,_,e=>e
 | .ub,_,e=>e
 | .Z sz xs,v,e=>by
  obtain⟨A,cap,h1,c,j,d⟩:=e;refine⟨A,cap,h1,c,j,?_⟩;rcases d with d|⟨ad,i,f⟩
  ·exact .inl d
  ·exact .inr ⟨ad,i,zN hh sz xs ad f⟩
 | .agg cs,v,e=>by obtain⟨us,h1,c⟩:=e;exact⟨us,h1,ZL hh cs _ c⟩
 | .iface t x,v,e=>by obtain⟨u,h1,c⟩:=e;exact⟨u,h1,oO hh x u c⟩
def ZL {h h':Nat→Option Obj}(hh:∀ b x,h b=some x→h' b=some x):∀ (xs:List D) (us:List Value),yW h xs us→yW h' xs us
 |[],_,e=>e
 |x::xs,us,e=>by obtain⟨u,r,h1,d,c⟩:=e;exact⟨u,r,h1,oO hh x u d,ZL hh xs r c⟩
def zN {h h':Nat→Option Obj}(hh:∀ b x,h b=some x→h' b=some x):∀ (sz:Nat) (xs:List D) (ad:Addr),ZJ h sz xs ad→ZJ h' sz xs ad
 |_,[],_,_=>trivial
 |sz,x::xs,ad,e=>by obtain⟨⟨v,h1,k,i,f⟩,d⟩:=e;exact⟨⟨v,h1,fun j u c=>KV hh (k j u c),i,oO hh x v f⟩,zN hh sz xs _ d⟩
end
def NU {h h':Nat→Option Obj}(hh:∀ b x,h b=some x→h' b=some x):∀ (sz:Nat) (xs:List D) (us:List Value),sO h sz xs us→sO h' sz xs us
 |_,[],_,e=>e
 |sz,x::xs,us,e=>by obtain⟨v,r,h1,i,f,d,c⟩:=e;exact⟨v,r,h1,i,f,oO hh x v d,NU hh sz xs r c⟩
structure U5 (p:Nat→Prop) (g g':G):Prop where
 h:∀ b x,g.h b=some x→g'.h b=some x
 blk:∀ o,p o→g'.blk o=g.blk o
 hdr:∀ o,p o→g'.hdr o=g.hdr o
def U5.refl (p:Nat→Prop)(g:G):U5 p g g:=⟨fun _ _ h=>h,fun _ _=>rfl,fun _ _=>rfl⟩
def VL.agree {p:Nat→Prop}{g g':G}(a:U5 p g g'):∀ {x:V} {v:Value},x.pF p→VL g x v→VL g' x v:=by
 intro x v b e
 match x with
 | .d x=>exact oO a.h _ _ e
 | .ptr o off=>simp only [VL] at *;rw [a.blk o b];exact e
 | .el sz xs i off=>simp only [VL] at *;obtain⟨ad,h1,c⟩:=e;exact⟨ad,zN a.h _ _ _ h1,c⟩
 | .rp o sz i off=>simp only [VL] at *;rw [a.hdr o b];exact e
 | .row o=>simp only [VL] at *;rw [a.hdr o b];exact e
 | .sub o sz j n=>simp only [VL] at *;rw [a.hdr o b];exact e
 | .agg _=>exact e
 | .fn _ []=>exact e
 | .fn _ (_::_)=>exact e
 | .tup _=>exact e
 | .mp o=>simp only [VL] at *;rw [a.blk o b];exact e
 | .bp _ o f=>simp only [VL] at *;rw [a.blk o b];exact e
def VA.agree {p:Nat→Prop}{g g':G}(a:U5 p g g'):∀ {x:V} {v:Value},x.bO p→VA g x v→VA g' x v:=by
 intro x v j e
 match x with
 | .agg cs=>obtain⟨us,h1,l⟩:=e;exact⟨us,h1,l.mono fun c k b=>VL.agree a (j c k)⟩
 | .fn f (c::m)=>obtain⟨us,h1,l⟩:=e;exact⟨us,h1,l.mono fun c k b=>VL.agree a (j c k)⟩
 | .fn f []=>exact VL.agree (x:= .fn f []) a trivial e
 | .d x=>exact VL.agree (x:= .d x) a trivial e
 | .ptr o off=>exact VL.agree (x:= .ptr o off) a j e
 | .el sz xs i off=>exact VL.agree (x:= .el sz xs i off) a trivial e
 | .rp o sz i off=>exact VL.agree (x:= .rp o sz i off) a j e
 | .row o=>exact VL.agree (x:= .row o) a j e
 | .sub o sz s n=>exact VL.agree (x:= .sub o sz s n) a j e
 | .mp o=>exact VL.agree (x:= .mp o) a j e
 | .bp t o f=>exact VL.agree (x:= .bp t o f) a j e
 | .tup y=>exact e
def VV.agree {p:Nat→Prop}{g g':G}(a:U5 p g g'):∀ {x:V} {v:Value},x.aU p→VV g x v→VV g' x v:=by
 intro x v j e
 match x with
 | .tup y=>obtain⟨us,h1,s⟩:=e;exact⟨us,h1,s.mono fun c m b=>VA.agree a (j c m)⟩
 | .agg cs=>exact VA.agree (x:= .agg cs) a j e
 | .fn f k=>cases k with
  |nil=>exact VA.agree (x:= .fn f []) a j e
  |cons c k=>exact VA.agree (x:= .fn f (c::k)) a j e
 | .d x=>exact VA.agree (x:= .d x) a j e
 | .ptr o off=>exact VA.agree (x:= .ptr o off) a j e
 | .el sz xs i off=>exact VA.agree (x:= .el sz xs i off) a j e
 | .rp o sz i off=>exact VA.agree (x:= .rp o sz i off) a j e
 | .row o=>exact VA.agree (x:= .row o) a j e
 | .sub o sz l n=>exact VA.agree (x:= .sub o sz l n) a j e
 | .mp o=>exact VA.agree (x:= .mp o) a j e
 | .bp t o f=>exact VA.agree (x:= .bp t o f) a j e
def V.pF.mono {p q:Nat→Prop}(h:∀ o,p o→q o):∀ {x:V},x.pF p→x.pF q:=by
 intro x e
 match x with
 | .ptr o _=>exact h o e
 | .rp o _ _ _=>exact h o e
 | .row o=>exact h o e
 | .sub o _ _ _=>exact h o e
 | .mp o=>exact h o e
 | .bp _ o _=>exact h o e
 | .d _ | .el .. | .agg _ | .fn .. | .tup _=>trivial
def V.bO.mono {p q:Nat→Prop}(h:∀ o,p o→q o):∀ {x:V},x.bO p→x.bO q:=by
 intro x e
 match x with
 | .agg cs=>exact fun v b=>V.pF.mono h (e v b)
 | .fn _ c=>exact fun v b=>V.pF.mono h (e v b)
 | .ptr o _=>exact h o e
 | .rp o _ _ _=>exact h o e
 | .row o=>exact h o e
 | .sub o _ _ _=>exact h o e
 | .mp o=>exact h o e
 | .bp _ o _=>exact h o e
 | .tup _=>exact e
 | .d _ | .el ..=>trivial
def V.aU.mono {p q:Nat→Prop}(h:∀ o,p o→q o):∀ {x:V},x.aU p→x.aU q:=by
 intro x e
 match x with
 | .tup i=>exact fun v c=>V.bO.mono h (e v c)
 | .agg cs=>exact V.bO.mono (x:= .agg cs) h e
 | .fn f b=>exact V.bO.mono (x:= .fn f b) h e
 | .mp o=>exact h o e
 | .bp _ o _=>exact h o e
 | .ptr o _=>exact h o e
 | .rp o _ _ _=>exact h o e
 | .row o=>exact h o e
 | .sub o _ _ _=>exact h o e
 | .d _ | .el ..=>trivial
def Ob.aU.mono {p q:Nat→Prop}(h:∀ o,p o→q o){x:Ob}(e:x.aU p):x.aU q:=by
 match x with
 | .var cs=>exact fun v b=>V.bO.mono h (e v b)
 | .row ..=>trivial
 | .mp ..=>trivial
def CO {u:Value}(h:u.oneCell'=true):u.cells=#[u]:=by cases u<;>first|rfl|(simp [Value.oneCell'] at h)
def mR {g:G}{x:V}{v:Value}(h:VL g x v):VA g x v:=by
 match x with
 | .agg _=>exact h.elim
 | .fn f []=>exact h
 | .fn f (_::_)=>exact h.elim
 | .tup _=>exact h.elim
 | .d x=>exact h
 | .ptr o off=>exact h
 | .el sz xs i off=>exact h
 | .rp o sz i off=>exact h
 | .row o=>exact h
 | .sub o sz b n=>exact h
 | .mp o=>exact h
 | .bp _ o f=>exact h
def gX {g:G}{x:V}{v:Value}(h:VA g x v):VV g x v:=by
 match x with
 | .tup _=>exact h.elim
 | .agg _=>exact h
 | .fn f []=>exact h
 | .fn f (_::_)=>exact h
 | .d x=>exact h
 | .ptr o off=>exact h
 | .el sz xs i off=>exact h
 | .rp o sz i off=>exact h
 | .row o=>exact h
 | .sub o sz b n=>exact h
 | .mp o=>exact h
 | .bp _ o f=>exact h
end Go.AE
namespace Go.AE
open Go.RowKit
def fN (a:Addr)(i j:Nat):(a.add i).add j=a.add (i+j):=by unfold Addr.add;by_cases hi:i=0<;>by_cases hj:j=0<;>simp [hi,hj,Nat.add_assoc]
def R5 (b o i:Nat):(⟨b,o,none⟩:Addr).add i=⟨b,o+i,none⟩:=by unfold Addr.add;split<;>simp_all
def vP {h:Nat→Option Obj}{sz:Nat}:∀ {xs:List D} {ad:Addr},ZJ h sz xs ad→∃ us,sO h sz xs us∧∀ j u,us[j]? = some u→tS h (ad.add j)=some u
 |[],_,_=>⟨[],rfl,fun j u b=>by simp at b⟩
 |x::xs,ad,e=>by
  obtain⟨⟨v,h1,n,m,l⟩,k⟩:=e;obtain⟨us,d,c⟩:=vP k;refine⟨v.cells.toList++us,⟨v,us,rfl,h1,m,l,d⟩,fun j u b=>?_⟩;rw [List.getElem?_append] at b;split at b
  ·exact n j u (by simpa using b)
  ·(rename_i i;have f:v.cells.toList.length=sz:=by simpa using h1);have:=c _ u b;rw [fN] at this;rw [show sz+(j-v.cells.toList.length)=j from by omega] at this;exact this
def rP {h h':Nat→Option Obj}(hh:∀ b x,h b=some x→h' b=some x){sz:Nat}:∀ {xs:List D} {ad:Addr} {us:List Value},sO h sz xs us→(∀ j u,us[j]? = some u→tS h' (ad.add j)=some u)→ZJ h' sz xs ad
 |[],_,_,_,_=>trivial
 |x::xs,ad,us,e,k=>by
  obtain⟨v,r,rfl,h1,m,l,i⟩:=e;have d:v.cells.toList.length=sz:=by simpa using h1
  refine⟨⟨v,h1,fun j u c=>k j u ?_,m,oO hh x v l⟩,rP hh i fun j u c=>?_⟩
  ·have f:j<v.cells.toList.length:=by
    rcases Nat.lt_or_ge j v.cells.size with hl|hl
    ·simpa using hl
    ·rw [Array.getElem?_eq_none hl] at c;cases c
   rw [List.getElem?_append_left f];simpa using c
  ·rw [fN];refine k (sz+j) u ?_;rw [F5 (by omega),d,Nat.add_sub_cancel_left];exact c
def lD {h:Nat→Option Obj}{sz:Nat}:∀ {xs:List D} {us:List Value},sO h sz xs us→us.length=xs.length*sz
 |[],_,e=>by subst e;simp
 |x::xs,us,e=>by obtain⟨v,r,rfl,h1,_,_,b⟩:=e;have:=lD b;simp [h1,this,Nat.add_mul,Nat.add_comm]
def MU {h:Nat→Option Obj}{sz:Nat}:∀ {xs:List D} {us:List Value},sO h sz xs us→∀ u∈us,u.oneCell'=true
 |[],_,e=>by subst e;simp
 |x::xs,us,e=>by
  obtain⟨v,r,rfl,_,d,_,c⟩:=e;intro u b;rcases D3.1 b with b|b
  ·exact d u b
  ·exact MU c u b
def EL {h:Nat→Option Obj}{sz:Nat}:∀ {xs ys:List D} {us b:List Value},sO h sz xs us→sO h sz ys b→sO h sz (xs++ys) (us++b)
 |[],_,_,_,e,k=>by subst e;exact k
 |x::xs,ys,us,b,e,k=>by obtain⟨v,r,rfl,h1,f,d,c⟩:=e;exact⟨v,r++b,by simp,h1,f,d,EL c k⟩
def zK {h:Nat→Option Obj}{sz:Nat}:∀ {xs:List D} {us:List Value} (n:Nat),sO h sz xs us→sO h sz (xs.drop n) (us.drop (n*sz))
 |[],us,n,e=>by subst e;simp [sO]
 |x::xs,us,0,e=>by simpa using e
 |x::xs,us,n+1,e=>by
  obtain⟨v,r,rfl,h1,f,d,c⟩:=e;have b:v.cells.toList.length=sz:=by simpa using h1
  have:=zK n c;have e1:(v.cells.toList++r).drop ((n+1)*sz)=r.drop (n*sz):=by rw [List.drop_append,b,D4 (by rw [b,Nat.add_mul];omega),List.nil_append,show (n+1)*sz-sz=n*sz from by rw [Nat.add_mul];omega]
  rw [e1];simpa using this
def zM {h:Nat→Option Obj}{sz:Nat}:∀ {xs:List D} {us:List Value} (n:Nat),sO h sz xs us→sO h sz (xs.take n) (us.take (n*sz))
 |[],us,n,e=>by subst e;simp [sO]
 |x::xs,us,0,e=>by simp [sO]
 |x::xs,us,n+1,e=>by
  obtain⟨v,r,rfl,h1,f,d,c⟩:=e;have b:v.cells.toList.length=sz:=by simpa using h1
  have:=zM n c;refine⟨v,r.take (n*sz),?_,h1,f,d,this⟩;rw [List.take_append,b,List.take_of_length_le (by rw [b,Nat.add_mul];omega),show (n+1)*sz-sz=n*sz from by rw [Nat.add_mul];omega]
def VX {h:Nat→Option Obj}{sz:Nat}:∀ {xs:List D} {us:List Value} {i:Nat} {x:D},sO h sz xs us→xs[i]? = some x→∃ v:Value,v.cells.size=sz∧(∀ j u,v.cells[j]? = some u→us[i*sz+j]? = some u)∧(∀ u∈v.cells.toList,u.oneCell'=true)∧VD h x v
 |[],_,i,x,_,b=>by simp at b
 |y::xs,us,0,x,e,b=>by
  obtain⟨v,r,rfl,h1,l,k,f⟩:=e;simp at b;subst b;refine⟨v,h1,fun j u d=>?_,l,k⟩;have z:j<v.cells.size:=by
   rcases Nat.lt_or_ge j v.cells.size with hl|hl
   ·exact hl
   ·rw [Array.getElem?_eq_none hl] at d;cases d
  rw [List.getElem?_append_left (by simpa using (by omega:0*sz+j<v.cells.size))];simpa using d
 |y::xs,us,i+1,x,e,b=>by
  obtain⟨v,r,rfl,h1,l,k,f⟩:=e;obtain⟨m,t,s,n,k4⟩:=VX (i:=i) f (by simpa using b);have c:v.cells.toList.length=sz:=by simpa using h1
  refine⟨m,t,fun j u d=>?_,n,k4⟩;rw [F5 (by rw [c,Nat.add_mul];omega),c,show (i+1)*sz+j-sz=i*sz+j from by rw [Nat.add_mul];omega];exact s j u d
def Nu (w:World)(h:Nat→Option Obj)(sz:Nat)(xs:List D)(v:Value):Prop:=
 ∃ A cap us,v = .slice A xs.length cap∧xs.length≤cap∧cap≤maxLen∧sO h sz xs us∧(xs=[]∨∃ ad,A=some ad∧∀ j u,us[j]? = some u→w.cell? (ad.add j)=some u)
def tT {w:World}{h:Nat→Option Obj}(c:∀ b x,h b=some x→w.heap[b]? = some x){a:Addr}{v:Value}(e:tS h a=some v):w.cell? a=some v:=by
 unfold tS at e;unfold World.cell?
 cases hb:h a.block with
 |none=>simp [hb] at e
 |some x=>rw [hb] at e;rw [c _ _ hb];exact e
def LO {w:World}{h:Nat→Option Obj}(m:∀ b x,h b=some x→w.heap[b]? = some x){sz:Nat}{xs:List D}{v:Value}(e:VD h (.Z sz xs) v):Nu w h sz xs v:=by
 obtain⟨A,cap,h1,d,c,s⟩:=e;rcases s with rfl|⟨ad,n,k⟩
 ·exact⟨A,cap,[],h1,d,c,rfl,.inl rfl⟩
 ·obtain⟨us,i,f⟩:=vP k;exact⟨A,cap,us,h1,d,c,i,.inr ⟨ad,n,fun j u l=>tT m (f j u l)⟩⟩
def cP {w:World}{base e sz n:Nat}{v:Value}{us:List Value}(h:w.ownsRow base e sz v n us) :(v = .slice none 0 0∧n=0∧us=[])∨∃ b cap cur,v = .slice (some ⟨b,0,none⟩) n cap∧w.heap[b]? = some (.cells cur e (0,0))∧n≤cap∧cap≤maxLen∧cur.size=cap*sz∧cur.toList.take (n*sz)=us∧us.length=n*sz:=by
 obtain⟨hl,h⟩:=h;rcases h with ⟨h1,k⟩|⟨b,cap,cur,h1,_,j,i,f,d,c⟩
 ·subst k;exact .inl ⟨h1,rfl,D1 (by simpa using hl)⟩
 ·exact .inr ⟨b,cap,cur,h1,j,i,f,d,c,hl⟩
def UX {w:World}{b n sz:Nat}{e:TypeId}{cur:Array Value}{us:List Value}(f:w.heap[b]? = some (.cells cur e (0,0)))(d:cur.toList.take (n*sz)=us) :∀ j u,us[j]? = some u→w.cell? ((⟨b,0,none⟩:Addr).add j)=some u:=by
 intro j u c;rw [R5,C5,cell_of_row w b j cur e (0,0) f];rw [← d,List.getElem?_take] at c;split at c
 ·simpa using c
 ·cases c
def Bj {w:World}{h:Nat→Option Obj}{e sz:Nat}{xs:List D}{v:Value}{us:List Value}(c:w.ownsRow 0 e sz v xs.length us)(d:sO h sz xs us):Nu w h sz xs v:=by
 rcases cP c with ⟨rfl,l,rfl⟩|⟨b,cap,cur,rfl,k,j,i,_,f,_⟩
 ·have:xs=[]:=D1 l;subst this;exact⟨none,0,[],rfl,B9 _,C4 _,rfl,.inl rfl⟩
 ·exact⟨some ⟨b,0,none⟩,cap,us,rfl,j,i,d,.inr ⟨_,rfl,UX k f⟩⟩
section
variable {u:Nat→Option Obj} {p:Nat→Prop} {g:G} {h:Nat→Option Ob} {w:World}
def uR {o e sz:Nat}{xs:List D}{fz:Bool}(c:OB g o (.row e sz xs fz) w):JR (g.hdr o)=xs.length:=by
 cases fz with
 |false=>
  obtain⟨us,_,f,_⟩:=c;rcases cP f with ⟨h1,d,_⟩|⟨b,cap,cur,h1,_⟩
  ·rw [h1,d];rfl
  ·rw [h1];rfl
 |true=>
  rcases c with ⟨h1,d⟩|⟨b,cap,h1,_⟩
  ·rw [h1,d];rfl
  ·rw [h1];rfl
def IE (f:aS u p g h w){o e sz:Nat}{xs:List D}{fz:Bool}(i:h o=some (.row e sz xs fz)):Nu w g.h sz xs (g.hdr o):=by
 have c:=f.ob _ _ i
 cases fz with
 |false=>obtain⟨us,_,h1,d⟩:=c;exact Bj h1 d
 |true=>
  rcases c with ⟨h1,d⟩|⟨b,cap,h1,d,k,j⟩
  ·subst d;rw [h1];exact⟨none,0,[],rfl,B9 _,C4 _,rfl,.inl rfl⟩
  ·exact LO f.frz ⟨some ⟨b,0,none⟩,cap,h1,d,k,.inr ⟨_,rfl,j⟩⟩
def VB (i:aS u p g h w){o e sz:Nat}{xs:List D}{fz:Bool}(l:h o=some (.row e sz xs fz)){b:Nat}(f:(g.hdr o).ownBlock=some b) :∃ us,sO g.h sz xs us∧∀ j v,us[j]? = some v→w.cell? ⟨b,j,none⟩=some v:=by
 obtain⟨A,cap,us,h1,B,z,n,y⟩:=IE i l;refine⟨us,n,fun j v m=>?_⟩;rcases y with rfl|⟨ad,rfl,x⟩
 ·have:=lD n;simp at this;subst this;simp at m
 ·have d:=i.ob _ _ l;have c:g.hdr o = .slice none 0 0∨∃ b cap,g.hdr o = .slice (some ⟨b,0,none⟩) xs.length cap:=by
   cases fz with
   |false=>
    obtain⟨us,_,t,_⟩:=d;rcases cP t with ⟨k,_,_⟩|⟨b,cap,cur,k,_⟩
    ·exact .inl k
    ·exact .inr ⟨b,cap,k⟩
   |true=>
    rcases d with ⟨k,_⟩|⟨b,cap,k,_⟩
    ·exact .inl k
    ·exact .inr ⟨b,cap,k⟩
  rcases c with k|⟨b',s,k⟩
  ·rw [h1] at k;cases k
  ·(rw [k] at f h1;simp only [Value.ownBlock,B1] at f;subst f;have:ad=⟨b',0,none⟩:=by simpa using (by injection h1 with h1;exact h1.symm:some ad=some _));subst this;have:=x j v m
   rwa [R5,C5] at this
def xH (e:aS u p g h w){x:V}{v:Value}(c:VV g x v){sz:Nat}{xs:List D}(hl:QL h x=some (sz,xs)):Nu w g.h sz xs v:=by
 unfold QL at hl;split at hl
 ·simp only [B1,C7] at hl;obtain⟨rfl,rfl⟩:=hl;exact LO e.frz c
 ·simp only [B1,C7] at hl;obtain⟨rfl,rfl⟩:=hl;have c:v = .slice none 0 0:=c;subst c;exact⟨none,0,[],rfl,B9 _,C4 _,rfl,.inl rfl⟩
 ·split at hl
  ·rename_i f;simp only [B1,C7] at hl;obtain⟨rfl,rfl⟩:=hl;have c:v=g.hdr _:=c.1;subst c;exact IE e f
  ·cases hl
 ·split at hl
  ·rename_i o z C n _ _ m xs' fz f
   cases s:Nat.beq z m with
   |false=>rw [s] at hl;cases hl
   |true=>
    (rw [s] at hl;simp only [cond_true,B1,C7] at hl;obtain⟨rfl,rfl⟩:=hl;have s:z=m:=B0 s;subst s;obtain⟨y,A,cap,rfl,S,F,M⟩:=(c:VL g (.sub o z C n) v);rw [uR (e.ob _ _ f)] at y;have i:((xs'.drop C).take n).length=n:=by simp;omega);obtain⟨X,B,us,h1,W,T,I,O⟩:=IE e f;refine⟨A,cap,(us.drop (C*z)).take (n*z),by rw [i],by omega,F,zM n (zK C I),?_⟩;rcases M with rfl|⟨b,E,rfl⟩
    ·left;simp
    ·right;refine⟨_,rfl,fun j v d=>?_⟩;obtain⟨J,H,Q⟩:=VB e f E;obtain⟨_,_,_,_,_,_,_,_⟩:=IE e f;rw [List.getElem?_take] at d;split at d
     ·rw [List.getElem?_drop] at d;rw [R5];have L:∀ j v,us[j]? = some v→w.cell? ⟨b,j,none⟩=some v:=by
       intro j v d;rcases O with rfl|⟨ad,rfl,N⟩
       ·have:=lD I;simp at this;subst this;simp at d
       ·have t:=e.ob _ _ f;have l:g.hdr o = .slice none 0 0∨∃ b cap,g.hdr o = .slice (some ⟨b,0,none⟩) xs'.length cap:=by
         cases fz with
         |false=>
          obtain⟨us,_,H,_⟩:=t;rcases cP H with ⟨k,_,_⟩|⟨b,cap,cur,k,_⟩
          ·exact .inl k
          ·exact .inr ⟨b,cap,k⟩
         |true=>
          rcases t with ⟨k,_⟩|⟨b,cap,k,_⟩
          ·exact .inl k
          ·exact .inr ⟨b,cap,k⟩
        rcases l with k|⟨b',B,k⟩
        ·rw [h1] at k;cases k
        ·(rw [k] at E h1;simp only [Value.ownBlock,B1] at E;subst E;have:ad=⟨b',0,none⟩:=by simpa using (by injection h1 with h1;exact h1.symm:some ad=some _));subst this;have:=N j v d
         rwa [R5,C5] at this
      exact L _ _ d
     ·cases d
  ·cases hl
 ·cases hl
end
end Go.AE
namespace Go.AE
open Go.RowKit
def SS {w w':World}{base e sz n:Nat}{v:Value}{us:List Value}(c:∀ b,v.ownBlock=some b→w'.heap[b]? = w.heap[b]?)(h:w.ownsRow base e sz v n us):w'.ownsRow base e sz v n us:=by
 obtain⟨hl,h⟩:=h;refine⟨hl,?_⟩;rcases h with h|⟨b,cap,cur,h1,f,d,r⟩
 ·exact .inl h
 ·exact .inr ⟨b,cap,cur,h1,f,by rw [c b (by rw [h1];rfl)];exact d,r⟩
def tD {w:World}{b:Nat}{x:Obj}(h:w.heap[b]? = some x):b<w.heap.size:=(Array.getElem?_eq_some_iff.1 h).1
section
variable {u:Nat→Option Obj} {p q:Nat→Prop} {g g':G} {h h':Nat→Option Ob} {w w':World}
def XU {o:Nat}{x:Ob}{b:Nat}(f:OB g o x w)(d:pC g o x=some b):b<w.heap.size:=by
 match x with
 | .var cs=>obtain⟨c,e,h1,_⟩:=f;simp only [pC,B1] at d;subst d;exact tD h1
 | .row e sz xs false=>
  obtain⟨us,_,i,_⟩:=f;rcases cP i with ⟨h1,_⟩|⟨b',cap,cur,h1,j,_⟩
  ·simp only [pC,h1,Value.ownBlock] at d;cases d
  ·simp only [pC,h1,Value.ownBlock,B1] at d;subst d;exact tD j
 | .row e sz xs true=>simp [pC] at d
 | .mp k xs=>obtain⟨es,clock,h1,_⟩:=f;simp only [pC,B1] at d;subst d;exact tD h1
def OB.keep {o:Nat}{x:Ob}(d:OB g o x w)(f:U5 p g g')(hp:p o)(m:x.aU p)(j:∀ b,pC g o x=some b→w'.heap[b]? = w.heap[b]?):OB g' o x w':=by
 match x with
 | .var cs=>obtain⟨c,e,h1,i,l⟩:=d;refine⟨c,e,?_,i.mono fun c n b=>VA.agree f (m c n),l⟩;rw [f.blk o hp,j _ rfl];exact h1
 | .row e sz xs false=>obtain⟨us,h0,h1,i⟩:=d;refine⟨us,h0,?_,NU f.h _ _ _ i⟩;rw [f.hdr o hp];exact SS (fun b k=>j b k) h1
 | .row e sz xs true=>
  have e1:=f.hdr o hp;rcases d with ⟨h1,i⟩|⟨b,cap,h1,i,l,s⟩
  ·exact .inl ⟨by rw [e1];exact h1,i⟩
  ·exact .inr ⟨b,cap,by rw [e1];exact h1,i,l,zN f.h _ _ _ s⟩
 | .mp t xs=>obtain⟨es,clock,h1,i⟩:=d;exact⟨es,clock,by rw [f.blk o hp,j _ rfl];exact h1,i.mono fun c _ b k=>⟨oO f.h _ _ k.1,oO f.h _ _ k.2.1,k.2.2⟩⟩
def jK {o:Nat}{x:Ob}(b:U5 p g g')(hp:p o):pC g' o x=pC g o x:=by
 match x with
 | .var cs=>simp only [pC,b.blk o hp]
 | .row e sz xs false=>simp only [pC,b.hdr o hp]
 | .row e sz xs true=>rfl
 | .mp c xs=>simp only [pC,b.blk o hp]
def aS.Qk (c:aS u p g h w){b:Nat}(d:w.heap.size≤b):g.h b=none∧u b=none:=by
 constructor
 ·cases e:g.h b with
  |none=>rfl
  |some x=>have:=tD (c.frz b x e);omega
 ·cases e:u b with
  |none=>rfl
  |some x=>have:=tD (c.unt b x e);omega
def aS.update (d:aS u p g h w)(t:U5 p g g')(n:g'.h=g.h)(row:Option Nat) (E:∀ k,k<w.heap.size→some k≠row→w'.heap[k]? = w.heap[k]?) (j:∀ b,row=some b→g.h b=none∧u b=none) (z:∀ x,p x→q x) (o:Nat) (c:∀ o' x,h' o'=some x→o'≠o→h o'=some x∧∀ b,pC g o' x=some b→some b≠row) (A:∀ x,h' o=some x→OB g' o x w'∧(∀ b,pC g' o x=some b→some b=row∨w.heap.size≤b)∧q o∧x.aU q):aS u q g' h' w':=by
 have m:∀ o' x,h' o'=some x→o'≠o→∀ b,pC g o' x=some b→w'.heap[b]? = w.heap[b]?:=by intro o' x f F b i;obtain⟨h1,C⟩:=c o' x f F;exact E b (XU (d.ob _ _ h1) i) (C b i)
 have B:∀ b,(some b=row∨w.heap.size≤b)→g.h b=none∧u b=none:=by
  intro b i;rcases i with i|i
  ·exact j b i.symm
  ·exact d.Qk i
 refine⟨?_,?_,?_,?_,?_,?_,fun b=>by rw [n];exact d.dj b⟩
 ·intro b x f;rw [n] at f;have h1:=d.frz b x f;rw [E b (tD h1) ?_]
  ·exact h1
  ·intro e;have:=(j b e.symm).1;rw [f] at this;cases this
 ·intro b x f;have h1:=d.unt b x f;rw [E b (tD h1) ?_]
  ·exact h1
  ·intro e;have:=(j b e.symm).2;rw [f] at this;cases this
 ·intro o' x f;by_cases e:o'=o
  ·subst e;exact (A x f).1
  ·obtain⟨h1,_⟩:=c o' x f e;exact (d.ob _ _ h1).keep t (d.use _ _ h1).1 (d.use _ _ h1).2 (m o' x f e)
 ·intro o' x b f i;rw [n];by_cases e:o'=o
  ·subst e;exact B b ((A x f).2.1 b i)
  ·obtain⟨h1,_⟩:=c o' x f e;rw [jK t (d.use _ _ h1).1] at i;exact d.sep o' x b h1 i
 ·intro o1 D x1 x2 b h1 C y v;by_cases e1:o1=o<;>by_cases e2:D=o
  ·rw [e1,e2]
  ·subst e1;obtain⟨l,s⟩:=c D x2 C e2;rw [jK t (d.use _ _ l).1] at v;rcases (A x1 h1).2.1 b y with r|r
   ·exact absurd r (s b v)
   ·have:=XU (d.ob _ _ l) v;omega
  ·subst e2;obtain⟨l,s⟩:=c o1 x1 h1 e1;rw [jK t (d.use _ _ l).1] at y;rcases (A x2 C).2.1 b v with r|r
   ·exact absurd r (s b y)
   ·have:=XU (d.ob _ _ l) y;omega
  ·obtain⟨l,_⟩:=c o1 x1 h1 e1;obtain⟨s,_⟩:=c D x2 C e2;rw [jK t (d.use _ _ l).1] at y;rw [jK t (d.use _ _ s).1] at v;exact d.inj o1 D x1 x2 b l s y v
 ·intro o' x f;by_cases e:o'=o
  ·subst e;exact (A x f).2.2
  ·obtain⟨h1,_⟩:=c o' x f e;exact⟨z _ (d.use _ _ h1).1,(d.use _ _ h1).2.mono z⟩
def aS.Yg (c:aS u p g h w)(hh:∀ o x,h' o=some x→h o=some x):aS u p g h' w:=⟨c.frz,c.unt,fun o x e=>c.ob o x (hh o x e),fun o x b e=>c.sep o x b (hh o x e),fun o o' x x' b e d=>c.inj o o' x x' b (hh o x e) (hh o' x' d),fun o x e=>c.use o x (hh o x e),c.dj⟩
def aS.more (b:aS u p g h w)(c:∀ x,p x→q x):aS u q g h w:=⟨b.frz,b.unt,b.ob,b.sep,b.inj,fun o x e=>⟨c _ (b.use o x e).1,(b.use o x e).2.mono c⟩,b.dj⟩
def aS.same (c:aS u p g h w)(e:w'.heap=w.heap):aS u p g h w':=⟨fun b x k=>by rw [e];exact c.frz b x k,fun b x k=>by rw [e];exact c.unt b x k,fun o x k=>(c.ob o x k).keep (U5.refl p g) (c.use _ _ k).1 (c.use _ _ k).2 fun b _=>by rw [e],c.sep,c.inj,c.use,c.dj⟩
def sX:Option Ob→Option Ob
 |some (.row e sz xs _)=>some (.row e sz xs true)
 |ob=>ob
def PV (x:Option Ob):sX (sX x)=sX x:=by
 match x with
 |none=>rfl
 |some (.var _)=>rfl
 |some (.row ..)=>rfl
 |some (.mp ..)=>rfl
def xF:∀ (os:List Nat) (h:Nat→Option Ob) (x:Nat),bJ h os x=h x∨bJ h os x=sX (h x)
 |[],h,x=> .inl rfl
 |o::os,h,x=>by
  simp only [bJ]
  cases e:Nat.beq x o with
  |true=>
   have e:x=o:=B0 e;subst e;right;simp only [cond_true]
   match h x with
   |none=>rfl
   |some (.var _)=>rfl
   |some (.row ..)=>rfl
   |some (.mp ..)=>rfl
  |false=>simpa using xF os h x
def xE (h:Nat→Option Ob)(o:Nat)(os:List Nat)(x:Nat):bJ h (o::os) x=if x=o then sX (bJ h os o) else bJ h os x:=by
 simp only [bJ];by_cases e:x=o
 ·subst e;simp only [Nat.beq_refl,cond_true,if_true];have:sX (bJ h os x)=sX (h x):=by
   rcases xF os h x with k|k
   ·rw [k]
   ·rw [k,PV]
  rw [this]
  match h x with
  |none=>rfl
  |some (.var _)=>rfl
  |some (.row ..)=>rfl
  |some (.mp ..)=>rfl
 ·have:Nat.beq x o=false:=by
   cases k:Nat.beq x o with
   |false=>rfl
   |true=>exact absurd (B0 k) e
  simp [this,e]
def BC:∀ (os:List Nat) (h:Nat→Option Ob) (o:Nat),o∈os→bJ h os o=sX (h o)
 |o'::os,h,o,hm=>by
  rw [xE];by_cases e:o=o'
  ·subst e;rw [if_pos rfl];rcases xF os h o with k|k
   ·rw [k]
   ·rw [k,PV]
  ·rw [if_neg e];exact BC os h o (by simpa [e] using hm)
def rY:∀ (os:List Nat) (h:Nat→Option Ob) (o:Nat),o∉os→bJ h os o=h o
 |[],_,_,_=>rfl
 |o'::os,h,o,hm=>by rw [xE,if_neg (by intro e;subst e;simp at hm)];exact rY os h o (by intro k;exact hm (by simp [k]))
def aS.Vk (c:aS u p g h w)(o:Nat):∃ g':G,U5 p g g'∧g'.blk=g.blk∧g'.hdr=g.hdr∧aS u p g' (fun x=>if x=o then sX (h o) else h x) w:=by
 by_cases hu:∃ e sz xs,h o=some (.row e sz xs false)
 ·obtain⟨e,sz,xs,s⟩:=hu;have B:=c.ob _ _ s;obtain⟨us,L,h1,O⟩:=B;have t:pC g o (.row e sz xs false)=(g.hdr o).ownBlock:=rfl;let l:Nat→Option Obj:=fun b=>if some b=(g.hdr o).ownBlock then w.heap[b]? else g.h b;have m:∀ b x,g.h b=some x→l b=some x:=by
   intro b x k;simp only [l];split
   ·rename_i e;exact c.frz b x k
   ·exact k
  have y:U5 p g ⟨l,g.blk,g.hdr⟩:=⟨m,fun _ _=>rfl,fun _ _=>rfl⟩;refine⟨⟨l,g.blk,g.hdr⟩,y,rfl,rfl,?_⟩;have d:∀ o' x,(if o'=o then sX (h o) else h o')=some x→(o'≠o∧h o'=some x)∨(o'=o∧x = .row e sz xs true):=by
   intro o' x k;by_cases f:o'=o
   ·rw [if_pos f,s] at k;simp only [sX,B1] at k;exact .inr ⟨f,k.symm⟩
   ·rw [if_neg f] at k;exact .inl ⟨f,k⟩
  refine⟨?_,c.unt,?_,?_,?_,?_,?_⟩
  ·intro b x k;simp only [l] at k;split at k
   ·exact k
   ·exact c.frz b x k
  ·intro o' x k;rcases d o' x k with ⟨_,k⟩|⟨rfl,rfl⟩
   ·exact (c.ob _ _ k).keep y (c.use _ _ k).1 (c.use _ _ k).2 fun _ _=>rfl
   ·rcases cP h1 with ⟨i,n,_⟩|⟨b,cap,cur,i,A,k4,J,S,I,_⟩
    ·exact .inl ⟨i,D1 n⟩
    ·refine .inr ⟨b,cap,i,k4,J,rP m O fun j v M=>?_⟩;have N:l b=some (.cells cur e (0,0)):=by
      simp only [l,i,Value.ownBlock,if_true];exact A
     rw [R5,C5];simp only [tS,N];have:=UX A I j v M;rw [R5,C5,cell_of_row w b j cur e (0,0) A] at this;simpa using this
  ·intro o' x b k z;rcases d o' x k with ⟨C,k⟩|⟨rfl,rfl⟩
   ·rw [jK y (c.use _ _ k).1] at z;obtain⟨s1,H⟩:=c.sep o' x b k z;refine⟨?_,H⟩;simp only [l];rw [if_neg]
    ·exact s1
    ·intro f;exact C (c.inj o' o x _ b k s z (by rw [t,← f]))
   ·simp [pC] at z
  ·intro o1 F x1 x2 b i n E D;rcases d o1 x1 i with ⟨_,i⟩|⟨rfl,rfl⟩
   ·rcases d F x2 n with ⟨_,n⟩|⟨rfl,rfl⟩
    ·rw [jK y (c.use _ _ i).1] at E;rw [jK y (c.use _ _ n).1] at D;exact c.inj o1 F x1 x2 b i n E D
    ·simp [pC] at D
   ·simp [pC] at E
  ·intro o' x k;rcases d o' x k with ⟨_,k⟩|⟨rfl,rfl⟩
   ·exact c.use _ _ k
   ·exact⟨(c.use _ _ s).1,trivial⟩
  ·intro b;simp only [l];split
   ·rename_i f;exact .inr (c.sep o _ b s (by rw [t,← f])).2
   ·exact c.dj b
 ·refine⟨g,U5.refl p g,rfl,rfl,c.Yg fun o' x k=>?_⟩;by_cases f:o'=o
  ·subst f;rw [if_pos rfl] at k
   match hx:h o',k with
   |some (.var cs),k=>simpa [hx,sX] using k
   |some (.mp Q xs),k=>simpa [hx,sX] using k
   |some (.row e sz xs true),k=>simpa [hx,sX] using k
   |some (.row e sz xs false),_=>exact absurd ⟨e,sz,xs,hx⟩ hu
   |none,k=>simp [hx,sX] at k
  ·rwa [if_neg f] at k
def aS.freeze (c:aS u p g h w):∀ os:List Nat,∃ g':G,U5 p g g'∧g'.blk=g.blk∧g'.hdr=g.hdr∧aS u p g' (bJ h os) w
 |[]=>⟨g,U5.refl p g,rfl,rfl,c⟩
 |o::os=>by obtain⟨g1,a1,i,e,s1⟩:=c.freeze os;obtain⟨g2,a2,f,d,j⟩:=s1.Vk o;refine⟨g2,⟨fun b x k=>a2.h b x (a1.h b x k),fun o _=>by rw [f,i],fun o _=>by rw [d,e]⟩,by rw [f,i],by rw [d,e],?_⟩;have:bJ h (o::os)=fun x=>if x=o then sX (bJ h os o) else bJ h os x:=funext (xE h o os);rw [this];exact j
def Lg {o e sz:Nat}{xs:List D}(c:OB g o (.row e sz xs true) w):VD g.h (.Z sz xs) (g.hdr o):=by
 rcases c with ⟨h1,d⟩|⟨b,cap,h1,d,i,f⟩
 ·subst d;rw [h1];exact⟨none,0,rfl,B9 _,C4 _,.inl rfl⟩
 ·exact⟨_,cap,h1,d,i,.inr ⟨_,rfl,f⟩⟩
def Ez {o e sz k n:Nat}{xs:List D}(c:OB g o (.row e sz xs true) w){v:Value}(t:VL g (.sub o sz k n) v):VD g.h (.Z sz ((xs.drop k).take n)) v:=by
 obtain⟨hl,A,cap,rfl,B,x,y⟩:=t;rw [uR c] at hl;have d:((xs.drop k).take n).length=n:=by simp;omega
 refine⟨A,cap,by rw [d],by omega,x,?_⟩;rcases y with rfl|⟨b,i,rfl⟩
 ·left;simp
 ·right;refine⟨_,rfl,?_⟩;rcases c with ⟨h1,C⟩|⟨b',l,h1,_,_,z⟩
  ·rw [h1] at i;simp [Value.ownBlock] at i
  ·rw [h1] at i;simp only [Value.ownBlock,B1] at i;subst i;obtain⟨us,s,m⟩:=vP z;refine rP (fun _ _ h=>h) (zM n (zK k s)) fun j v f=>?_;rw [List.getElem?_take] at f;split at f
   ·rw [List.getElem?_drop] at f;have:=m _ v f;rw [R5] at this ⊢;simpa using this
   ·cases f
def LM {x:V}{v:Value}{d:D}{fz os:List Nat}(c:VA g x v)(s:x.bO p)(b:UN h x=some (d,fz))(i:∀ o∈fz,o∈os) (l:U5 p g g') (t:aS u p g' (bJ h os) w):VD g'.h d v:=by
 unfold UN at b;split at b
 ·simp only [B1,C7] at b;obtain⟨rfl,rfl⟩:=b;exact oO l.h _ _ c
 ·split at b
  ·(rename_i o _ e sz xs m j;simp only [B1,C7] at b;obtain⟨rfl,rfl⟩:=b;have k:bJ h os o=some (.row e sz xs true):=by rw [BC os h o (i o (by simp)),j];rfl);have c:v=g.hdr o:=c.1;subst c;rw [← l.hdr o s];exact Lg (t.ob _ _ k)
  ·cases b
 ·split at b
  ·rename_i o z y n _ e sz xs m j
   cases f:Nat.beq z sz with
   |false=>rw [f] at b;cases b
   |true=>(rw [f] at b;simp only [cond_true,B1,C7] at b;obtain⟨rfl,rfl⟩:=b;have f:z=sz:=B0 f;subst f;have k:bJ h os o=some (.row e z xs true):=by rw [BC os h o (i o (by simp)),j];rfl);exact Ez (t.ob _ _ k) (VL.agree (x:= .sub o z y n) l s c)
  ·cases b
 ·simp only [B1,C7] at b;obtain⟨rfl,rfl⟩:=b;exact c
 ·cases b
def DR {os:List Nat}(s:U5 p g g')(n:aS u p g' (bJ h os) w):∀ {xs:List V} {l:List Value} {ds:List D} {fz:List Nat},F2 (VL g) xs l→(∀ x∈xs,x.pF p)→HO h xs=some (ds,fz)→(∀ o∈fz,o∈os)→yW g'.h ds l
 |[],_,ds,fz,e,_,c,_=>by cases e;simp only [HO,B1,C7] at c;obtain⟨rfl,rfl⟩:=c;rfl
 |x::xs,_,ds,fz,e,m,c,f=>by
  cases e with
  |cons h1 z=>
   simp only [HO] at c;split at c
   ·rename_i d a B b e1 A;simp only [B1,C7] at c;obtain⟨rfl,rfl⟩:=c;have i:x.bO p:=by
     have:=m x (by simp)
     match x,this with
     | .agg _,_=>exact h1.elim
     | .fn _ [],_=>intro v e;cases e
     | .fn _ (_::_),_=>exact h1.elim
     | .tup _,_=>exact h1.elim
     | .d _,_=>trivial
     | .ptr ..,k=>exact k
     | .mp _,k=>exact k
     | .el ..,_=>trivial
     | .rp ..,k=>exact k
     | .row _,k=>exact k
     | .sub ..,k=>exact k
    exact⟨_,_,rfl,LM (mR h1) i e1 (fun o j=>f o (by simp [j])) s n,DR s n z (fun y t=>m y (by simp [t])) A (fun o j=>f o (by simp [j]))⟩
   ·cases c
def mC {x:V}{v:Value}{d:D}{fz os:List Nat}(i:VA g x v)(f:x.bO p)(b:aH8 h x=some (d,fz))(c:∀ o∈fz,o∈os) (l:U5 p g g') (j:aS u p g' (bJ h os) w):VD g'.h d v:=by
 unfold aH8 at b;split at b
 ·split at b
  ·rename_i e;simp only [B1,C7] at b;obtain⟨rfl,rfl⟩:=b;obtain⟨us,rfl,k⟩:=i;exact⟨us,rfl,DR l j k f e c⟩
  ·cases b
 ·exact LM i f b c l j
end
end Go.AE
namespace Go.AE
open Go.RowKit
def EK (P:Program)(o:Oper)(a:Act)(w:World)(R:Value→World→Prop):Prop:=
 (∃ v w',(execOp a.eval o).run P w = .ok (.value v) w'∧R v w')∨
 (∃ w',(execOp a.eval o).run P w = .ok .skip w'∧R undef w')∨
 (∃ f args w1,(execOp a.eval o).run P w = .ok (.enter f args) w1∧Calls P f args w1 fun e w'=>∃ v,e = .returned v∧R v w')
def EK.mono {P:Program}{o:Oper}{a:Act}{w:World}{R R':Value→World→Prop}(h:EK P o a w R)(c:∀ v w',R v w'→R' v w'):EK P o a w R':=by
 rcases h with ⟨v,w',h1,b⟩|⟨w',h1,b⟩|⟨f,args,w1,h1,b⟩
 ·exact .inl ⟨v,w',h1,c _ _ b⟩
 ·exact .inr (.inl ⟨w',h1,c _ _ b⟩)
 ·exact .inr (.inr ⟨f,args,w1,h1,b.mono fun e w' ⟨v,i,d⟩=>⟨v,i,c _ _ d⟩⟩)
def EK.wp {P:Program}{o:Oper}{a:Act}{w:World}{R:Value→World→Prop}(h:EK P o a w R){K:Act→World→Prop}{Q:Exit→Act→World→Prop} (c:∀ v w',R v w'→K (a.put o.dst v) w'):o.wp P a w K Q:=by
 unfold Oper.wp;rcases h with ⟨v,w',h1,b⟩|⟨w',h1,b⟩|⟨f,args,w1,h1,b⟩
 ·rw [h1];exact c v w' b
 ·rw [h1];exact c undef w' b
 ·rw [h1];exact b.mono fun e w' ⟨v,i,d⟩=>by subst i;exact c v w' d
def Xx (u:Nat→Option Obj)(p q:Nat→Prop)(g:G)(st:St)(w:World)(vv:V)(st':St)(v:Value)(w':World):Prop:=
 ∃ g',aS u q g' st'.h w'∧U5 p g g'∧Ext g w g' w'∧VV g' vv v∧vv.aU q∧st'.t=st.t∧st'.m=st.m
def GS (h:Nat→Option Obj):∀ v:Value,VD h (OW v) v:=by intro v;unfold OW;split<;>first|rfl|trivial|exact⟨_,rfl,rfl⟩
def DM (h:Nat→Option Obj):∀ b:List Value,yW h (b.map OW) b
 |[]=>rfl
 |v::b=>⟨v,b,rfl,GS h v,DM h b⟩
def GR (h:Nat→Option Obj)(v:Value):VD h (WN v) v:=by
 unfold WN;split
 ·exact⟨_,rfl,DM h _⟩
 ·exact GS h v
def rB {v:V}{R:Type}{K:V→Option R}:force v K=K v:=by cases v<;>rfl
section
variable {u:Nat→Option Obj} {p q:Nat→Prop} {g:G} {st:St} {a:Act} {w:World} {P:Program} {o:Oper}
structure At (u:Nat→Option Obj) (p:Nat→Prop) (g:G) (st:St) (a:Act) (w:World):Prop where
 hp:aS u p g st.h w
 tm:∀ t,VV g (st.t t) (a.tmps.getD t undef)
 nm:∀ t,(st.t t).aU p
def At.ev (S:At u p g st a w)(x:Operand):VV g (R0 st x) (a.eval x):=by
 cases x with
 |tmp t=>exact S.tm t
 |const v=>exact GR _ v
 |global n=>exact (trivial:VD g.h .top _)
 |func f=>exact (rfl:Value.func (.func f) #[] #[]=_)
def At.eZ (S:At u p g st a w)(x:Operand):(R0 st x).aU p:=by
 cases x with
 |tmp t=>exact S.nm t
 |const v=>exact trivial
 |global n=>exact trivial
 |func f=>exact trivial
def EK.val (S:At u p g st a w)(b:∀ x,p x→q x){v:Value}{vv:V}(e:(execOp a.eval o).run P w = .ok (.value v) w)(c:VV g vv v)(d:vv.aU p) :EK P o a w fun v w'=>Xx u p q g st w vv st v w':= .inl ⟨v,w,e,g,S.hp.more b,U5.refl p g,Ext.refl g w,c,d.mono b,rfl,rfl⟩
def GD {v:Value}{b:Bool}(h:VV g (.d (.bool b)) v):v = .bool b:=h
def wQ {v:Value}{k:IntKind}{n:Int}(h:VV g (.d (.int k n)) v):v = .int k n:=h
def Iy (S:At u p g st a w)(c:∀ x,p x→q x){x:Operand}(b:o.op = .move x∨o.op = .assign x) :EK P o a w fun v w'=>Xx u p q g st w (R0 st x) st v w':=by refine EK.val S c (v:=a.eval x) ?_ (S.ev x) (S.eZ x);rcases b with b|b<;>simp [execOp,b]
def Ws (S:At u p g st a w)(e:∀ x,p x→q x){x y z:Operand}{b:Bool}(i:o.op = .pick x y z)(f:R0 st x = .d (.bool b)) :EK P o a w fun v w'=>Xx u p q g st w (if b then R0 st y else R0 st z) st v w':=by
 have c:=S.ev x;rw [f] at c;have c:=GD c;refine EK.val S e (v:=if b then a.eval y else a.eval z) ?_ ?_ ?_
 ·simp only [execOp,i,c,asBool];cases b<;>simp
 ·cases b
  ·exact S.ev z
  ·exact S.ev y
 ·cases b
  ·exact S.eZ z
  ·exact S.eZ y
def sE (S:At u p g st a w)(l:∀ x,p x→q x){x:Operand}(k:o.op = .nilCheck x) (n:(∃ q f,R0 st x = .ptr q f)∨(∃ sz xs i f,R0 st x = .el sz xs i f)∨(∃ q sz i f,R0 st x = .rp q sz i f)∨(∃ f,R0 st x = .d (.fn f))∨(∃ f cs,R0 st x = .fn f cs)) :EK P o a w fun v w'=>Xx u p q g st w (R0 st x) st v w':=by
 refine EK.val S l (v:=a.eval x) ?_ (S.ev x) (S.eZ x);have j:=S.ev x;rcases n with ⟨m,f,e⟩|⟨sz,xs,i,f,e⟩|⟨m,sz,i,f,e⟩|⟨f,e⟩|⟨f,cs,e⟩
 ·rw [e] at j;have j:a.eval x = .pointer (some ⟨g.blk m,f,none⟩):=j;simp [execOp,k,j]
 ·rw [e] at j;obtain⟨ad,_,_,j⟩:=j;simp [execOp,k,j]
 ·rw [e] at j;obtain⟨_,b,_,j⟩:=j;simp [execOp,k,j]
 ·rw [e] at j;have j:a.eval x = .func (.func f) #[] #[]:=j;simp [execOp,k,j]
 ·rw [e] at j
  cases cs with
  |nil=>have j:a.eval x = .func (.func f) #[] #[]:=j;simp [execOp,k,j]
  |cons c cs=>obtain⟨us,j,_⟩:=j;simp [execOp,k,j]
def AR {op:BinOp}{t:TypeId}{x y:Operand}{k b:IntKind}{n m:Int}:(eqGuard op t x y (.int k n) (.int b m)).run P w = .ok () w:=by cases op<;>rfl
def As {op:BinOp}{t:TypeId}{x y:Operand}{b b':ByteArray}:(eqGuard op t x y (.string b) (.string b')).run P w = .ok () w:=by cases op<;>rfl
def GY {op:BinOp}{t:TypeId}{x y:Operand}{b b':Bool}:(eqGuard op t x y (.bool b) (.bool b')).run P w = .ok () w:=by cases op<;>rfl
def Fc {op:BinOp}{t:TypeId}{k:IntKind}{n m:Int}{R:Type}{K:D→Option R}{r:R}(h:LH op k n m K=some r)(b:op≠ .shl∧op≠ .shr) :∃ z v,K z=some r∧(binOp op t (.int k n) (.int k m)).run P w = .ok v w∧VD g.h z v:=by
 cases op<;>simp only [LH] at h
 case shl=>exact absurd rfl b.1
 case shr=>exact absurd rfl b.2
 case quo|rem=>
  cases e:decide (m=0) with
  |true=>rw [e] at h;cases h
  |false=>rw [e] at h;have e:m≠0:=E9 e;refine⟨_,_,h,?_,rfl⟩;simp [binOp,Op.intDiv,e]
 all_goals first
  |(refine⟨_,_,h,?_,rfl⟩;simp [binOp,Op.intArith,Op.intBits,Op.intCmp];done)
  |exact absurd h (by simp)
def Gl {op:BinOp}{t:TypeId}{b b':ByteArray}{R:Type}{K:D→Option R}{r:R}(h:MC op b.data.toList b'.data.toList K=some r) :∃ z v,K z=some r∧(binOp op t (.string b) (.string b')).run P w = .ok v w∧VD g.h z v:=by
 cases op<;>simp only [MC] at h
 case add=>
  cases e:decide (b.data.toList.length+b'.data.toList.length≤Z5) with
  |false=>rw [e] at h;cases h
  |true=>(rw [e] at h;have e:=E7 e;simp only [Z5,E4] at e;refine⟨_,.string (b++b'),h,?_,b++b',rfl,by simp⟩;have c:b.size+b'.size≤9223372036854775807:=by simp only [ByteArray.size];omega);simp only [binOp];exact run_string_add_sum w b b' c
 all_goals first
  |(refine⟨_,_,h,?_,rfl⟩;simp [binOp,Op.stringOp,ByteArray.toList_eq];done)
  |exact absurd h (by simp)
def Ab {op:BinOp}{t:TypeId}{b b':Bool}(c:P.underlying t=some .bool) :(binOp .eql t (.bool b) (.bool b')).run P w = .ok (.bool (b==b')) w∧(binOp .neq t (.bool b) (.bool b')).run P w = .ok (.bool (!(b==b'))) w:=⟨run_eql_bool w t b b' c,run_neq_bool w t b b' c⟩
end
end Go.AE
namespace Go.AE
open Go.RowKit
section
variable {u:Nat→Option Obj} {p q:Nat→Prop} {g:G} {st:St} {a:Act} {w:World} {P:Program} {o:Oper}
def xV {t:TypeId}{d:TypeDesc}(h:P.underlying t=some d):(isAgg t).run P w = .ok (iC d) w:=by simp only [isAgg,Sem.run_bind,run_underlying h,Result.andThen_ok];cases d<;>rfl
def lB {t:TypeId}{i:TypeInfo}(h:P.info? t=some i):(sizeOf t).run P w = .ok i.size w:=by simp [sizeOf,typeInfo,h]
def lX {t:TypeId}(h:IV P t=true):∃ d i,P.underlying t=some d∧P.info? t=some i∧X7 P t=iC d∧cA P t=i.size:=by
 unfold IV at h
 cases hd:P.underlying t with
 |none=>simp [hd] at h
 |some d=>
  cases hi:P.info? t with
  |none=>simp [hi] at h
  |some i=>exact⟨d,i,rfl,rfl,by simp [X7,hd],by simp [cA,hi]⟩
def oS {t:TypeId}{d:TypeDesc}{i:TypeInfo}(e:P.underlying t=some d)(b:P.info? t=some i)(c:iC d=true){ad:Addr}{us:List Value}(hl:us.length=i.size) (f:∀ j v,us[j]? = some v→w.cell? (ad.add j)=some v):(loadVar t ad).run P w = .ok (.agg us.toArray) w:=by simp only [loadVar,Sem.run_bind,xV e,c,Result.andThen_ok,if_true,lB b];rw [← hl,run_loadCells_list w ad us f];rfl
def oT {t:TypeId}{d:TypeDesc}(c:P.underlying t=some d)(b:iC d=false){ad:Addr}{v:Value} (e:w.cell? ad=some v):(loadVar t ad).run P w = .ok v w:=by simp only [loadVar,Sem.run_bind,xV c,b,Result.andThen_ok,D6,if_false];simp [e]
def Eb {x:V}{v:Value}(h:VA g x v):VL g (pY x) v:=by
 match x with
 | .agg _=>exact (trivial:VD g.h .top _)
 | .fn f []=>exact h
 | .fn f (_::_)=>exact (trivial:VD g.h .top _)
 | .tup _=>exact (trivial:VD g.h .top _)
 | .d x=>exact h
 | .ptr o off=>exact h
 | .el sz xs i off=>exact h
 | .rp o sz i off=>exact h
 | .row o=>exact h
 | .mp o=>exact h
 | .bp ..=>exact (trivial:VD g.h .top _)
 | .sub o sz b n=>exact h
def ZA {x:V}(h:x.bO p):(pY x).pF p:=by
 match x with
 | .agg _=>trivial
 | .fn f []=>trivial
 | .fn f (_::_)=>trivial
 | .tup _=>trivial
 | .d x=>trivial
 | .ptr o off=>exact h
 | .el sz xs i off=>trivial
 | .rp o sz i off=>exact h
 | .row o=>exact h
 | .mp o=>exact h
 | .bp ..=>trivial
 | .sub o sz b n=>exact h
def He:∀ {cs:List V} {us:List Value} {xs:List D},F2 (VA g) cs us→VZ cs=some xs→yW g.h xs us
 |[],_,xs,h,e=>by cases h;simp only [VZ,B1] at e;subst e;rfl
 |c::cs,_,xs,h,e=>by
  cases h with
  |cons h1 b=>
   simp only [VZ] at e;split at e
   ·rename_i x xs' e1;simp only [B1] at e;subst e;exact⟨_,_,rfl,h1,He b e1⟩
   ·cases e
def vZ {cs:List V}{us:List Value}(h:F2 (VA g) cs us):VA g (aY3 cs) (.agg us.toArray):=by
 unfold aY3;split
 ·rename_i xs e;exact⟨us.toArray,rfl,by simpa using He h e⟩
 ·refine⟨us.toArray,rfl,?_⟩;simp only [];exact F2.HU (h.mono fun c _ b d=>Eb d)
def rF {cs:List V}(h:∀ c∈cs,c.bO p):(aY3 cs).bO p:=by
 unfold aY3;split
 ·trivial
 ·intro v b;obtain⟨c,d,rfl⟩:=List.mem_map.1 b;exact ZA (h c d)
def fH {x:V}(h:x.bO p):x.aU p:=by
 match x with
 | .tup _=>exact h.elim
 | .agg _=>exact h
 | .fn _ _=>exact h
 | .d x=>trivial
 | .ptr o off=>exact h
 | .el sz xs i off=>trivial
 | .rp o sz i off=>exact h
 | .row o=>exact h
 | .mp o=>exact h
 | .bp ..=>exact h
 | .sub o sz b n=>exact h
def QT {t:tH}{x:D}(h:eO t x=true){hh:Nat→Option Obj}{v:Value}(b:VD hh x v):VD hh (NA t x) v:=by
 match t,x,h,b with
 | .any,_,_,b=>exact b
 | .bool,.bool _,_,b=>exact b
 | .int k,.int d _,h,b=>
  have:k=d:=by simpa [eO] using h
  subst this;exact b
 | .str,.str _,_,b=>exact b
 | .Z sz,.Z c _,h,b=>have:sz=c:=B0 h;subst this;exact b
 | .Z sz,.nils _ _,_,b=>have b:v = .slice none 0 0:=b;subst b;exact⟨none,0,rfl,B9 _,C4 _,.inl rfl⟩
def HW {hh:Nat→Option Obj}:∀ {ts:List tH} {cs:List D} {us:List Value} {x:D} {j:Nat},aT ts cs=true→yW hh cs us→(∀ i,cs[i]? = x.cells[j+i]?)→yW hh (vU ts x j) us
 |[],[],us,_,_,_,b,_=>b
 |t::ts,c::cs,us,x,j,h,b,d=>by
  simp only [aT,A9] at h;obtain⟨v,r,rfl,h1,f⟩:=b;have e:x.at_ j=c:=by have:=d 0;simp at this;simp [D.at_,← this]
  exact⟨v,r,rfl,by rw [e];exact QT h.1 h1,HW h.2 f fun i=>by have:=d (i+1);simp at this;rw [this];congr 1;omega⟩
 |[],_::_,_,_,_,h,_,_=>by simp [aT] at h
 |_::_,[],_,_,_,h,_,_=>by simp [aT] at h
def BP {t:Ty}{x:D}(h:kX t x=true){hh:Nat→Option Obj}{v:Value}(b:VD hh x v):VD hh (K4 t x) v:=by
 match t,x,h,b with
 | .leaf t,x,h,b=>exact QT h b
 | .agg ts,.agg cs,h,b=>obtain⟨us,rfl,h1⟩:=b;exact⟨us,rfl,HW (x:= .agg cs) (j:=0) h h1 fun i=>by simp [D.cells]⟩
def Qy {t:tH}{x:D}(h:eO t x=true)(e:t≠ .any){hh:Nat→Option Obj}{v:Value}(c:VD hh x v):v.oneCell'=true:=by
 match t,x,h,c with
 | .any,_,_,_=>exact absurd rfl e
 | .bool,.bool _,_,c=>have c:v=_:=c;subst c;rfl
 | .int k,.int f _,h,c=>have c:v=_:=c;subst c;rfl
 | .str,.str _,_,c=>obtain⟨b,rfl,_⟩:=c;rfl
 | .Z sz,.Z d _,h,c=>obtain⟨A,cap,rfl,_⟩:=c;rfl
 | .Z sz,.nils _ _,_,c=>have c:v=_:=c;subst c;rfl
def YX {t:TypeId}(h:X7 P t=true):zF P t = .agg (HP P 8 t):=by simp [zF,h]
def Di {t:TypeId}(h:X7 P t=false):zF P t = .leaf (kF P t):=by simp [zF,h]
def nO (w:World)(ad:Addr)(us:List Value):Prop:=∀ j v,us[j]? = some v→w.cell? (ad.add j)=some v
def nO.sub {ad:Addr}{us:List Value}(h:nO w ad us)(n:Nat):nO w (ad.add n) (us.drop n):=fun j v b=>by rw [fN];exact h _ v (by rw [← b,List.getElem?_drop])
def nO.take {ad:Addr}{us:List Value}(h:nO w ad us)(n:Nat):nO w ad (us.take n):=fun j v b=>by
 rw [List.getElem?_take] at b;split at b
 ·exact h j v b
 ·cases b
def getD_some {α:Type}{xs:List α}{i:Nat}{d:α}(h:i<xs.length):xs[i]? = some (xs[i]?.getD d):=by rw [C2 h];rfl
def UP {t:TypeId}(A:IV P t=true){hh:Nat→Option Obj}{sz:Nat}{xs:List D}{us:List Value}{ad:Addr}(F:sO hh sz xs us)(H:nO w ad us){i:Nat}(E:i<xs.length) (y:cA P t=sz) (f:dA (zF P t)=true) (b:kX (zF P t) (xs[i]?.getD .top)=true) :∃ v,(loadVar t (ad.add (i*sz))).run P w = .ok v w∧VD hh (K4 (zF P t) (xs[i]?.getD .top)) v:=by
 obtain⟨d,info,z,k,n,B⟩:=lX A;obtain⟨v,h1,I,J,s⟩:=VX F (getD_some (d:=D.top) E);refine⟨v,?_,BP b s⟩;have c:∀ j u,v.cells.toList[j]? = some u→w.cell? ((ad.add (i*sz)).add j)=some u:=fun j u C=>by rw [fN];exact H _ u (I j u (by simpa using C))
 cases hagg:iC d with
 |true=>
  rw [hagg] at n;rw [YX n] at b;have l:∃ cs,xs[i]?.getD .top = .agg cs:=by
   cases l:xs[i]?.getD D.top with
   |agg cs=>exact⟨cs,rfl⟩
   |_=>rw [l] at b;simp [kX] at b
  obtain⟨cs,l⟩:=l;rw [l] at s;obtain⟨x,rfl,_⟩:=s;rw [oS z k hagg (us:=x.toList) (by simp only [E4];rw [← B,y];exact h1) c]
 |false=>rw [hagg] at n;rw [Di n] at b f;have m:v.oneCell'=true:=Qy b (by intro e;rw [e] at f;simp [dA] at f) s;have:=c 0 v (by rw [CO m];rfl);rw [show (ad.add (i*sz)).add 0=ad.add (i*sz) from by rw [fN,Nat.add_zero]] at this;exact oT z hagg this
def MV {hh:Nat→Option Obj}:∀ {xs:List D} {us:List Value} {j:Nat} {v:Value},yW hh xs us→us[j]? = some v→∃ x,xs[j]? = some x∧VD hh x v
 |[],_,j,v,h,b=>by subst h;simp at b
 |x::xs,_,j,v,h,b=>by
  obtain⟨u,r,rfl,h1,c⟩:=h
  cases j with
  |zero=>simp at b;subst b;exact⟨x,rfl,h1⟩
  |succ j=>simpa using MV c (by simpa using b)
def NW {hh:Nat→Option Obj}{xs:List D}{us:List Value}(h:yW hh xs us)(n:Nat):yW hh (xs.drop n) (us.drop n):=(mS _ _ _).2 (((mS _ _ _).1 h).drop n)
def NX {hh:Nat→Option Obj}{xs:List D}{us:List Value}(h:yW hh xs us)(n:Nat):yW hh (xs.take n) (us.take n):=(mS _ _ _).2 (((mS _ _ _).1 h).take n)
def EM {hh:Nat→Option Obj}{xs:List D}{us:List Value}(h:yW hh xs us):xs.length=us.length:=((mS _ _ _).1 h).length
def UQ {t:TypeId}(O:IV P t=true){hh:Nat→Option Obj}{sz:Nat}{xs:List D}{us:List Value}{ad:Addr}(T:sO hh sz xs us)(W:nO w ad us){i off:Nat}(S:i<xs.length) (I:off+cA P t≤sz) (F:NY (xs[i]?.getD .top)=true) (l:dA (zF P t)=true) (b:kX (zF P t) (zA (xs[i]?.getD .top) off (cA P t) (X7 P t))=true) :∃ v,(loadVar t (ad.add (i*sz+off))).run P w = .ok v w∧VD hh (K4 (zF P t) (zA (xs[i]?.getD .top) off (cA P t) (X7 P t))) v:=by
 obtain⟨d,info,J,m,n,hs⟩:=lX O;obtain⟨v,h1,X,h3,H⟩:=VX T (getD_some (d:=D.top) S);generalize hx:xs[i]?.getD D.top=x at *;have f:∀ j u,v.cells.toList[j]? = some u→w.cell? ((ad.add (i*sz)).add j)=some u:=fun j u Q=>by rw [fN];exact W _ u (X j u (by simpa using Q))
 have C:∃ c,v = .agg c∧yW hh x.cells c.toList:=by
  match x,H,F with
  | .agg cs,H,_=>obtain⟨c,rfl,A⟩:=H;exact⟨c,rfl,A⟩
 obtain⟨c,rfl,A⟩:=C;have N:c.size=sz:=h1;rw [← fN]
 cases hagg:iC d with
 |true=>
  rw [hagg] at n;rw [n] at b ⊢;rw [YX n] at b ⊢;simp only [zA,cond_true] at b ⊢;have z:((c.toList.drop off).take (cA P t)).length=info.size:=by simp;omega
  refine⟨.agg ((c.toList.drop off).take (cA P t)).toArray,?_,BP (t:= .agg (HP P 8 t)) b ⟨_,rfl,by simpa using NX (NW A off) _⟩⟩;exact oS J m hagg z ((nO.sub (w:=w) (ad:=ad.add (i*sz)) f off).take _)
 |false=>
  rw [hagg] at n;rw [n] at b ⊢;rw [Di n] at b l ⊢;simp only [zA,cond_false] at b ⊢;have k:kF P t≠ .any:=by intro e;rw [e] at l;simp [dA] at l
  have s:off<c.toList.length:=by
   rcases Nat.lt_or_ge off c.toList.length with hl|hl
   ·exact hl
   ·(have B:x.cells.length≤off:=by rw [EM A];exact hl);have:x.at_ off = .top:=by simp [D.at_,List.getElem?_eq_none B]
    rw [this] at b;cases hT:kF P t<;>simp [kX,eO,hT] at b k
  obtain⟨y,L,M⟩:=MV A (C2 s);have E:x.at_ off=y:=by simp [D.at_,L]
  rw [E] at b ⊢;exact⟨_,oT J hagg (f off _ (C2 s)),BP (t:= .leaf (kF P t)) b M⟩
end
end Go.AE
namespace Go.AE
open Go.RowKit
section
variable {u:Nat→Option Obj} {p q:Nat→Prop} {g:G} {st:St} {a:Act} {w:World} {P:Program} {o:Oper} {R:Type} {K:V→St→Option R} {r:R}
def Goal (u:Nat→Option Obj)(p q:Nat→Prop)(g:G)(st:St)(a:Act)(w:World)(P:Program)(o:Oper){R:Type}(K:V→St→Option R)(r:R):Prop:=
 ∃ vv st',K vv st'=some r∧EK P o a w fun v w'=>Xx u p q g st w vv st' v w'
def Goal.val (S:At u p g st a w)(b:∀ x,p x→q x){v:Value}{vv:V}(f:K vv st=some r)(e:(execOp a.eval o).run P w = .ok (.value v) w)(c:VV g vv v)(d:vv.aU p):Goal u p q g st a w P o K r:=⟨vv,st,f,EK.val S b e c d⟩
def J6 {α:Type}{c:Bool}{x:Option α}{r:α}(h:(bif c then x else none)=some r):c=true∧x=some r:=by
 cases c with
 |true=>exact⟨rfl,h⟩
 |false=>cases h
def N9 {α:Type}{c:Bool}{x:Option α}{r:α}(h:(bif c then none else x)=some r):c=false∧x=some r:=by
 cases c with
 |true=>cases h
 |false=>exact⟨rfl,h⟩
def IZ {v:Value}{b off:Nat}(h:VV g (.ptr b off) v):v = .pointer (some ⟨g.blk b,off,none⟩):=h
def HG (j:aS u p g st.h w){ro e sz:Nat}{xs:List D}{fz:Bool}(l:st.h ro=some (.row e sz xs fz)) :(g.hdr ro = .slice none 0 0∧xs=[])∨∃ b cap,g.hdr ro = .slice (some ⟨b,0,none⟩) xs.length cap∧xs.length≤cap∧cap≤maxLen:=by
 have d:=j.ob _ _ l
 cases fz with
 |false=>
  obtain⟨us,_,i,_⟩:=d;rcases cP i with ⟨k,c,_⟩|⟨b,cap,cur,k,_,c,f,_⟩
  ·exact .inl ⟨k,D1 c⟩
  ·exact .inr ⟨b,cap,k,c,f⟩
 |true=>
  rcases d with k|⟨b,cap,k,c,f,_⟩
  ·exact .inl k
  ·exact .inr ⟨b,cap,k,c,f⟩
def Wp (S:At u p g st a w)(l:∀ x,p x→q x){t:TypeId}{x:Operand}(ho:o.op = .load t x)(h:LP P t (R0 st x) st K=some r):Goal u p q g st a w P o K r:=by
 have k:=S.ev x;have X:=S.eZ x;unfold LP at h;simp only [] at h;obtain⟨D,h⟩:=N9 h;have D:IV P t=true:=by simpa using D
 obtain⟨d,info,hd,E,O,hs⟩:=lX D;have exec:∀ (ad:Addr) (v:Value),a.eval x = .pointer (some ad)→(loadVar t ad).run P w = .ok v w→(execOp a.eval o).run P w = .ok (.value v) w:=by intro ad v e1 e2;simp only [execOp,ho,Instr.loadAt,e1,Instr.sureAddr];simp [e2]
 match he:R0 st x with
 | .ptr q' off=>
  rw [he] at k X h;have k:=IZ k;simp only [] at h;split at h
  ·rename_i cs F;obtain⟨c,e,n,hF,h1⟩:=S.hp.ob _ _ F;have z:nO w ⟨g.blk q',0,none⟩ c.toList:=fun j v L=>by
    rw [R5,C5,cell_of_row w _ j c e (0,0) n];simpa using L
   cases s:X7 P t with
   |true=>
    rw [s] at h O;simp only [cond_true] at h;obtain⟨m,h⟩:=J6 h;have m:off+cA P t≤cs.length:=B3 m;have J:=hF.length;refine Goal.val S l h (exec _ _ k (oS hd E O.symm (us:=(c.toList.drop off).take (cA P t)) (by simp at J ⊢;omega) ?_)) (gX (vZ ((hF.drop off).take _))) (fH (rF fun y N=>?_))
    ·have:=(z.sub (w:=w) off).take (cA P t)
     rwa [R5,C5] at this
    ·exact (S.hp.use _ _ F).2 y (List.mem_of_mem_drop (List.mem_of_mem_take N))
   |false=>
    rw [s] at h O;simp only [cond_false] at h;split at h
    ·rename_i y N;rw [rB] at h;obtain⟨v,W,T⟩:=hF.get off y N;have:=z off v W;rw [R5,C5] at this;exact Goal.val S l h (exec _ _ k (oT hd O.symm this)) (gX T) (fH ((S.hp.use _ _ F).2 y (List.mem_of_getElem? N)))
    ·cases h
  ·cases h
 | .el sz xs i off=>
  rw [he] at k X h;obtain⟨ad,hr,I,k⟩:=k;obtain⟨us,M,A⟩:=vP hr;have A:nO w ad us:=fun j v L=>tT S.hp.frz (A j v L);simp only [] at h
  cases n:(Nat.beq off 0&&Nat.beq (cA P t) sz) with
  |true=>rw [n] at h;simp only [cond_true,typed] at h;obtain⟨f,h⟩:=J6 h;simp only [A9] at f n;have h0:off=0:=B0 n.1;subst h0;obtain⟨v,h1,H⟩:=UP (P:=P) (w:=w) D M A I (B0 n.2) f.1 f.2;exact Goal.val S l h (exec _ _ k h1) H trivial
  |false=>rw [n] at h;simp only [cond_false,typed] at h;obtain⟨m,h⟩:=J6 h;obtain⟨s,h⟩:=J6 h;obtain⟨f,h⟩:=J6 h;simp only [A9] at f;obtain⟨v,h1,H⟩:=UQ (P:=P) (w:=w) D M A I (B3 m) s f.1 f.2;exact Goal.val S l h (exec _ _ k h1) H trivial
 | .rp q' sz i off=>
  rw [he] at k X h;obtain⟨I,b,hbk,k⟩:=k;simp only [] at h;split at h
  ·(rename_i e Q xs fz C;replace h:=J6 h;obtain⟨B,h⟩:=h;obtain rfl:sz=Q:=B0 B;clear B;obtain⟨us,M,A⟩:=VB S.hp C hbk;have A:nO w ⟨b,0,none⟩ us:=fun j v L=>by rw [R5,C5];exact A j v L);rw [uR (S.hp.ob _ _ C)] at I
   cases n:(Nat.beq off 0&&Nat.beq (cA P t) sz) with
   |true=>rw [n] at h;simp only [cond_true,typed] at h;obtain⟨f,h⟩:=J6 h;simp only [A9] at f n;have h0:off=0:=B0 n.1;subst h0;obtain⟨v,h1,H⟩:=UP (P:=P) (w:=w) D M A I (B0 n.2) f.1 f.2;rw [R5,C5] at h1;exact Goal.val S l h (exec _ _ k h1) H trivial
   |false=>rw [n] at h;simp only [cond_false,typed] at h;obtain⟨m,h⟩:=J6 h;obtain⟨s,h⟩:=J6 h;obtain⟨f,h⟩:=J6 h;simp only [A9] at f;obtain⟨v,h1,H⟩:=UQ (P:=P) (w:=w) D M A I (B3 m) s f.1 f.2;rw [R5,C5] at h1;exact Goal.val S l h (exec _ _ k h1) H trivial
  ·cases h
 | .d _=>rw [he] at h;cases h
 | .row _=>rw [he] at h;cases h
 | .sub ..=>rw [he] at h;cases h
 | .agg _=>rw [he] at h;cases h
 | .fn ..=>rw [he] at h;cases h
 | .tup _=>rw [he] at h;cases h
 | .mp _=>rw [he] at h;cases h
 | .bp ..=>rw [he] at h;cases h
def YA (S:At u p g st a w)(j:∀ x,p x→q x){x:Operand}{ts:Array TypeId}{t:TypeId}{c:Call}(D:o.op = .call c)(B:c.callee = .builtin .len)(l:c.args=#[x])(C:c.argTypes=ts)(i:ts[0]? = some t) (h:Bg P t st (R0 st x) (fun n=>K (.d (.int .i64 n)) st)=some r):Goal u p q g st a w P o K r:=by
 have f:=S.ev x;have run:∀ n:Nat,(Builtin.len_ ts o.type #[a.eval x]).run P w = .ok (.int .i64 n) w→(execOp a.eval o).run P w = .ok (.value (.int .i64 n)) w:=by intro n e;simp only [execOp,D,resolve,B,l];subst C;simp [invoke,builtin,e]
 unfold Bg at h;split at h
 ·rename_i m;split at h
  ·rename_i s z;rw [z] at f;obtain⟨b,J,I⟩:=f;refine Goal.val S j h (run s.length ?_) rfl trivial;simp only [Builtin.len_,i,J];simp [run_underlying m,goInt,← I]
  ·cases h
 ·rename_i e m;split at h
  ·rename_i sz xs hl;obtain⟨A,cap,us,L,_⟩:=xH S.hp f hl;refine Goal.val S j h (run xs.length ?_) rfl trivial;simp only [Builtin.len_,i,L];simp [run_underlying m,goInt]
  ·cases h
 ·rename_i k e m;split at h
  ·rename_i no z;rw [z] at f;have f:a.eval x = .map (some (g.blk no)):=f;split at h
   ·(rename_i M xs E;obtain⟨es,clock,H,F⟩:=S.hp.ob _ _ E;have v:xs.length=es.size:=by rw [F.length];simp);refine Goal.val S j h (run xs.length ?_) rfl trivial;simp only [Builtin.len_,i,f];have y:(getObj (g.blk no)).run P w = .ok (.map es clock) w:=by simp [getObj,Sem.run,H]
    simp [run_underlying m,goInt,y,v]
   ·cases h
  ·rename_i z;rw [z] at f;have f:a.eval x = .map none:=f;refine Goal.val S j h (run 0 ?_) rfl trivial;simp only [Builtin.len_,i,f];simp [run_underlying m,goInt]
  ·cases h
 ·cases h
def UW (S:At u p g st a w)(l:∀ x,p x→q x){x y:Operand}{c:Call}{b:Builtin}{k z:IntKind}{n m:Int}(s:o.op = .call c)(j:c.callee = .builtin b)(i:c.args=#[x,y]) (B:R0 st x = .d (.int k n)) (A:R0 st y = .d (.int z m)) (C:k=z) :(b = .max→K (.d (.int k (max n m))) st=some r→Goal u p q g st a w P o K r)∧(b = .min→K (.d (.int k (min n m))) st=some r→Goal u p q g st a w P o K r):=by
 have f:=S.ev x;have e:=S.ev y;rw [B] at f;rw [A] at e;have f:=wQ f;have e:=wQ e;constructor
 ·intro t h;subst t;refine Goal.val S l h (v:= .int k (max n m)) ?_ rfl trivial;simp only [execOp,s,resolve,j,i,List.map_toArray,List.map_cons,List.map_nil,f,e];simp [invoke,builtin,Builtin.max_,Builtin.max2];split<;>omega
 ·intro t h;subst t;refine Goal.val S l h (v:= .int k (min n m)) ?_ rfl trivial;simp only [execOp,s,resolve,j,i,List.map_toArray,List.map_cons,List.map_nil,f,e];simp [invoke,builtin,Builtin.min_,Builtin.min2];split<;>omega
def Wt (S:At u p g st a w)(e:∀ x,p x→q x){x:Operand}{op:UnOp}{t:TypeId}{d:D}(f:o.op = .unOp op t x)(i:R0 st x = .d d) (h:MF op d (fun z=>K (.d z) st)=some r):Goal u p q g st a w P o K r:=by
 have c:=S.ev x;rw [i] at c;unfold MF at h;split at h
 ·rename_i k n;have c:a.eval x = .int k n:=c;refine Goal.val S e h (v:= .int k (k.wrap (0-n))) ?_ rfl trivial;simp [execOp,f,c,Op.unary,Op.intArith]
 ·rename_i k n;have c:a.eval x = .int k n:=c;refine Goal.val S e h ?_ rfl trivial;simp [execOp,f,c,Op.unary,Op.intBits]
 ·rename_i b;have c:a.eval x = .bool b:=c;refine Goal.val S e h (v:= .bool (!b)) ?_ rfl trivial;simp [execOp,f,c,Op.unary]
 ·cases h
def AY {t ft:TypeId}{k off:Nat}(h:EX P t k=some (off,ft)):∃ fs f,P.underlying t=some (.struct fs)∧fs[k]? = some f∧f.offset=off∧f.type=ft:=by
 unfold EX at h;split at h
 ·rename_i fs b;split at h
  ·rename_i f c;simp only [B1,C7] at h;exact⟨fs,f,b,c,h.1,h.2⟩
  ·cases h
 ·cases h
def XX (S:At u p g st a w)(j:∀ x,p x→q x){x:Operand}{t ft:TypeId}{k off:Nat}(E:o.op = .fieldAddr t x k)(F:EX P t k=some (off,ft))(v:(Nat.blt 0 (cA P ft)&&IV P ft)=true)
  (h:(match R0 st x with
   | .ptr q f=>K (.ptr q (f+off)) st
   | .el sz xs i f=>K (.el sz xs i (f+off)) st
   | .rp q sz i f=>K (.rp q sz i (f+off)) st
   |_=>none)=some r):Goal u p q g st a w P o K r:=by
 obtain⟨fs,f,C,y,rfl,rfl⟩:=AY F;simp only [A9] at v;obtain⟨d,info,_,l,_,D⟩:=lX v.2;have n:info.size≠0:=by have h1:Nat.ble 1 (cA P f.type)=true:=v.1;have:=B3 h1;omega
 have m:=S.ev x;have c:=S.eZ x;have run:∀ ad:Addr,a.eval x = .pointer (some ad)→(execOp a.eval o).run P w = .ok (.value (.pointer (some (ad.add f.offset)))) w:=by intro ad e;simp only [execOp,E,Instr.fieldAt,e];simp [run_underlying C,y,Instr.sureAddr,fieldPlace,lB l,n]
 split at h
 ·rename_i B A s;rw [s] at m c;refine Goal.val S j h (run _ (IZ m)) ?_ c;rw [R5];exact rfl
 ·rename_i sz xs i A s;rw [s] at m;obtain⟨ad,h1,z,H⟩:=m;refine Goal.val S j h (run _ H) ?_ trivial;refine⟨ad,h1,z,?_⟩;rw [fN,Nat.add_assoc]
 ·rename_i B sz i A s;rw [s] at m c;obtain⟨h0,b,h1,z⟩:=m;refine Goal.val S j h (run _ z) ?_ c;refine⟨h0,b,h1,?_⟩;rw [R5,Nat.add_assoc]
 ·cases h
def Fx (S:At u p g st a w)(i:∀ x,p x→q x){x:Operand}{k:Nat}{b:List V}(n:o.op = .extract x k)(m:R0 st x = .tup b)(d:k<b.length) (h:K (SM b k) st=some r):Goal u p q g st a w P o K r:=by
 have j:=S.ev x;have e:=S.eZ x;rw [m] at j e;obtain⟨us,h1,s⟩:=j;have l:∀ (b:List V) (k:Nat),k<b.length→b[k]? = some (SM b k):=by
  intro b
  induction b with
  |nil=>intro k d;simp at d
  |cons v b ih=>
   intro k d
   cases k with
   |zero=>simp [SM]
   |succ k=>show (v::b)[k+1]? = some (SM b k);simpa using ih k (by simpa using d)
 obtain⟨v,c,f⟩:=s.get k _ (l b k d);refine Goal.val S i h (v:=v) ?_ (gX f) (fH (e _ (List.mem_of_getElem? (l b k d))));have c:us[k]? = some v:=by simpa using c
 simp [execOp,n,Instr.extract,h1,c]
def XZ (S:At u p g st a w)(m:∀ x,p x→q x){x i:Operand}{t:TypeId}{s:G1}{k:IntKind}{n:Int}(C:o.op = .index t x i)(B:P.underlying t=some .string) (A:R0 st x = .d (.str s)) (D:R0 st i = .d (.int k n)) (z:(decide (0≤n)&&decide (n<s.length))=true) (h:K (.d (.int .u8 (s[n.toNat]?.getD 0).toNat)) st=some r):Goal u p q g st a w P o K r:=by
 have f:=S.ev x;have c:=S.ev i;rw [A] at f;rw [D] at c;obtain⟨b,y,l⟩:=f;have c:=wQ c;simp only [A9,decide_eq_true_eq] at z;refine Goal.val S m h (v:= .int .u8 (s[n.toNat]?.getD 0).toNat) ?_ rfl trivial;have e:n.toNat<b.size:=by
  have:s.length=b.size:=by rw [← l];exact E4
  omega
 have j:b[n.toNat]? = some (s[n.toNat]?.getD 0):=by
  have h1:b[n.toNat]? = some (b[n.toNat]'e):=getElem?_pos b n.toNat e;rw [h1,← l];have E:b.data.toList[n.toNat]? = some (b[n.toNat]'e):=by rw [D0];exact C8 e
  rw [E];rfl
 simp only [execOp,C,Instr.index,c,y];simp [run_underlying B,asIntOf,z.1,j]
end
end Go.AE
namespace Go.AE
open Go.RowKit
section
variable {u:Nat→Option Obj} {p q:Nat→Prop} {g:G} {st:St} {a:Act} {w:World} {P:Program} {o:Oper} {R:Type} {K:V→St→Option R} {r:R}
def xW {t:TypeId}{d:TypeDesc}{i:TypeInfo}(e:P.underlying t=some d)(b:P.info? t=some i)(c:iC d=true){cs:Array Value}{off:Nat} :(part t cs off).run P w = .ok (.agg (cs.extract off (off+i.size))) w:=by simp only [part,Sem.run_bind,xV e,c,Result.andThen_ok,if_true,lB b];rfl
def xX {t:TypeId}{d:TypeDesc}(e:P.underlying t=some d)(c:iC d=false){cs:Array Value}{off:Nat}{v:Value}(b:cs[off]? = some v) :(part t cs off).run P w = .ok v w:=by simp only [part,Sem.run_bind,xV e,c,Result.andThen_ok,D6,if_false,b];rfl
def TV (h:Nat→Option Obj)(P:Program)(t:TypeId)(cs:List D)(v:Value):Prop:=
 if X7 P t=true then ∃ us:Array Value,v = .agg us∧yW h cs us.toList else ∃ x,cs=[x]∧VD h x v
def qC:∀ {ts:List tH} {zs:List D},aT ts zs=true→zs.length=ts.length
 |[],[],_=>rfl
 |[],_::_,h=>by simp [aT] at h
 |_::_,[],h=>by simp [aT] at h
 |a::zs,b::bs,h=>by simp only [aT,A9] at h;simp [qC h.2]
def uH:∀ {ts b:List tH} {zs:List D},aT (ts++b) zs=true→aT ts (zs.take ts.length)=true∧aT b (zs.drop ts.length)=true
 |[],b,zs,h=>by simpa [aT] using h
 |t::ts,b,[],h=>by simp [aT] at h
 |t::ts,b,a::zs,h=>by simp only [List.cons_append,aT,A9] at h;have:=uH h.2;simp only [A0,List.take_succ_cons,List.drop_succ_cons,aT,A9];exact⟨⟨h.1,this.1⟩,this.2⟩
def AS:∀ (n:Nat) {zs bs:List D},zs.length=bs.length→fB zs bs=(fB (zs.take n) (bs.take n)&&fB (zs.drop n) (bs.drop n))
 |0,zs,bs,_=>by simp [fB]
 |n+1,[],[],_=>by simp [fB]
 |n+1,[],_::_,h=>by simp at h
 |n+1,_::_,[],h=>by simp at h
 |n+1,a::zs,b::bs,h=>by simp only [fB,List.take_succ_cons,List.drop_succ_cons];rw [AS n (by simpa using h),Bool.and_assoc]
def HJ {t:TypeId}{fs:Array Field}(h:P.underlying t=some (.struct fs)):X7 P t=true:=by simp [X7,h,iC]
def Iz {t:TypeId}(y:IV P t=true){cs:List D}{us:Array Value}(h:yW g.h cs us.toList){off n:Nat}(A:cA P t=n)(i:X7 P t=false→off+n≤cs.length)(h1:X7 P t=false→n=1) :∃ v,(part t us off).run P w = .ok v w∧TV g.h P t ((cs.drop off).take n) v:=by
 obtain⟨d,info,m,c,e,z⟩:=lX y;have l:=EM h
 cases hagg:iC d with
 |true=>rw [hagg] at e;refine⟨_,xW m c hagg,?_⟩;simp only [TV,e,if_true];refine⟨_,rfl,?_⟩;have:=NX (NW h off) n;rw [← z,A];simpa [Array.toList_extract,List.extract_eq_take_drop] using this
 |false=>
  rw [hagg] at e;have j:=h1 e;have i:=i e;have f:off<us.toList.length:=by omega
  obtain⟨x,k,s⟩:=MV h (C2 f);refine⟨_,xX m hagg (by rw [← D0];exact C2 f),?_⟩;simp only [TV,e,D6,if_false];refine⟨x,?_,s⟩;subst j;have b:off<cs.length:=by omega
  rw [List.drop_eq_getElem_cons b];have:cs[off]=x:=by rw [C2 b] at k;simpa using k
  simp [this]
def WX {t:TypeId}{l:tH}{d:Nat}{zs bs:List D}{x y:Value}(s:X7 P t=false)(i:aT [l] zs=true)(f:aT [l] bs=true)(e:TV g.h P t zs x)(c:TV g.h P t bs y) (hl:(P.underlying t=some .bool∧l = .bool)∨(∃ k,P.underlying t=some (.int k)∧l = .int k)∨(P.underlying t=some .string∧l = .str)) :(Op.equalIn (d+1) t x y).run P w = .ok (fB zs bs) w:=by
 simp only [TV,s,D6,if_false] at e c;obtain⟨a,rfl,e⟩:=e;obtain⟨b,rfl,c⟩:=c;simp only [aT,Bool.and_true] at i f;rcases hl with ⟨j,rfl⟩|⟨k,j,rfl⟩|⟨j,rfl⟩
 ·match a,b,i,f with
  | .bool a,.bool b,_,_=>have e:x = .bool a:=e;have c:y = .bool b:=c;subst e;subst c;rw [run_equalIn_bool' w d t a b j];simp [fB,tY]
 ·match a,b,i,f with
  | .int n a,.int m b,i,f=>
   (have e:x = .int n a:=e;have c:y = .int m b:=c;subst e;subst c;have h1:k=n:=by simpa [eO] using i);have v:k=m:=by simpa [eO] using f
   subst h1;subst v;rw [run_equalIn_int w d t k k a b j];simp [fB,tY]
 ·match a,b,i,f with
  | .str a,.str b,_,_=>obtain⟨z,rfl,rfl⟩:=e;obtain⟨b',rfl,rfl⟩:=c;rw [run_equalIn_string w d t z b' j];simp [fB,tY,ByteArray.toList_eq]
def Qf {n:Nat}{t:TypeId}{ts:List tH}(h:JK P n t=some ts)(b:X7 P t=false):ts.length=1:=by
 cases n with
 |zero=>simp [JK] at h
 |succ n=>
  simp only [JK] at h;split at h
  ·cases h;rfl
  ·cases h;rfl
  ·cases h;rfl
  ·rename_i fs c;rw [HJ c] at b;cases b
  ·cases h
def TZ (n d:Nat)(ih:∀ {t:TypeId} {ts:List tH} {zs bs:List D} {x y:Value},JK P n t=some ts→aT ts zs=true→aT ts bs=true→TV g.h P t zs x→TV g.h P t bs y→(Op.equalIn d t x y).run P w = .ok (fB zs bs) w) {zs bs:List D} {xs ys:Array Value} (A:yW g.h zs xs.toList) (z:yW g.h bs ys.toList) :∀ (fs:List Field) (off:Nat) (ts:List tH),PD (JK P n) P off fs=some ts→aT ts (zs.drop off)=true→aT ts (bs.drop off)=true→(Op.eqFields d xs ys fs).run P w = .ok (fB (zs.drop off) (bs.drop off)) w
 |[],off,ts,h,m,l=>by simp only [PD,B1] at h;subst h;have m:=qC m;have l:=qC l;rw [D1 m,D1 l];simp [Op.eqFields,fB]
 |f::fs,off,ts,h,m,l=>by
  simp only [PD] at h;split at h
  ·rename_i c h1;obtain⟨B,h⟩:=J6 h;simp only [A9,decide_eq_true_eq] at B;obtain⟨⟨⟨j,e⟩,i⟩,s⟩:=B;have e:f.offset=off:=B0 e;have i:cA P f.type=c.length:=B0 i;split at h
   ·rename_i v L;simp only [B1] at h;subst h;obtain⟨a1,a2⟩:=uH m;obtain⟨N,M⟩:=uH l;have H:=qC m;have F:=qC l;have b:X7 P f.type=false→c.length=1:=Qf h1;simp only [A7,F9] at H F;obtain⟨Q,E,C⟩:=Iz (w:=w) (off:=off) s A i (fun k=>by have:=b k;omega) b;obtain⟨O,p2,q2⟩:=Iz (w:=w) (off:=off) s z i (fun k=>by have:=b k;omega) b;have J:=ih h1 a1 N C q2;have I:=TZ n d ih A z fs (off+c.length) v L (by rw [← List.drop_drop];exact a2) (by rw [← List.drop_drop];exact M);simp only [Op.eqFields,j,ne_eq,not_false_eq_true,if_true,e,Sem.run_bind,E,p2,Result.andThen_ok,J];rw [AS (zs:=zs.drop off) (bs:=bs.drop off) c.length (by rw [F9,F9];omega),List.drop_drop,List.drop_drop]
    cases hq:fB ((zs.drop off).take c.length) ((bs.drop off).take c.length) with
    |false=>simp
    |true=>simp [I]
   ·cases h
  ·cases h
def AU:∀ (n:Nat) {t:TypeId} {ts:List tH} {d:Nat} {zs bs:List D} {x y:Value},JK P n t=some ts→n≤d→aT ts zs=true→aT ts bs=true→TV g.h P t zs x→TV g.h P t bs y→(Op.equalIn d t x y).run P w = .ok (fB zs bs) w
 |0,_,_,_,_,_,_,_,h,_,_,_,_,_=>by simp [JK] at h
 |n+1,t,ts,0,zs,bs,x,y,h,m,_,_,_,_=>by omega
 |n+1,t,ts,d+1,zs,bs,x,y,h,m,j,i,e,c=>by
  simp only [JK] at h;split at h
  ·rename_i b;cases h;exact WX (by simp [X7,b,iC]) j i e c (.inl ⟨b,rfl⟩)
  ·rename_i k b;cases h;exact WX (by simp [X7,b,iC]) j i e c (.inr (.inl ⟨k,b,rfl⟩))
  ·rename_i b;cases h;exact WX (by simp [X7,b,iC]) j i e c (.inr (.inr ⟨b,rfl⟩))
  ·(rename_i fs b;obtain⟨hp,h⟩:=N9 h;have l:=HJ b;simp only [TV,l,if_true] at e c;obtain⟨xs,rfl,e⟩:=e;obtain⟨ys,rfl,c⟩:=c;have f:P.fieldsOf t=fs:=by simp [Program.fieldsOf,b]);rw [run_equalIn_agg w d t xs ys (by rw [f];exact b) hp,f];exact TZ n d (fun h1 A z v s=>AU n h1 (by omega) A z v s) e c fs.toList 0 ts h j i
  ·cases h
def Da {t:TypeId}(h:gZ P t=true):∃ e,P.underlying t=some (.slice e):=by
 unfold gZ oI at h;split at h
 ·rename_i e b;exact⟨e,b⟩
 ·cases h
def lZ {op:BinOp}{t:TypeId}{x y:Operand}{A d:Option Addr}{l b c c':Nat}:(eqGuard op t x y (.slice A l c) (.slice d b c')).run P w = .ok () w:=by cases op<;>rfl
def run_eql_slice_nil (w:World)(t e:TypeId)(a:Option Addr)(l c:Nat)(h:P.underlying t=some (.slice e)):(binOp .eql t (.slice a l c) (.slice none 0 0)).run P w = .ok (.bool a.isNone) w:=by simp only [binOp];simp [run_equal_slice_nil w t e a l c h]
def Rw (S:At u p g st a w)(i:∀ x,p x→q x){x y:Operand}{op:BinOp}{t:TypeId}{b:Bool}{d e:D}(J:∃ z,o.op = .binOp op t x y z)(hx:R0 st x = .d d)(hy:R0 st y = .d e) (h:AB P op t d e (fun z=>K (.d z) st)=some r):Goal u p q g st a w P o K r:=by
 obtain⟨zz,J⟩:=J;have f:=S.ev x;have c:=S.ev y;rw [hx] at f;rw [hy] at c;have run:∀ v,(eqGuard op t x y (a.eval x) (a.eval y)).run P w = .ok () w→(binOp op t (a.eval x) (a.eval y)).run P w = .ok v w→(execOp a.eval o).run P w = .ok (.value v) w:=by intro v h1 Q;simp only [execOp,J];simp [h1,Q]
 unfold AB at h;split at h
 ·rename_i k n X m;have f:a.eval x = .int k n:=f;have c:a.eval y = .int X m:=c;rw [f,c] at run;split at h
  ·obtain⟨hm,h⟩:=N9 h;have hm:¬ m<0:=E9 hm;refine Goal.val S i h (run (.int k (k.wrap (n*2 ^ (min m.toNat k.bits)))) AR ?_) rfl trivial;simp [binOp,Op.shift,hm]
  ·obtain⟨hm,h⟩:=N9 h;have hm:¬ m<0:=E9 hm;refine Goal.val S i h (run (.int k (n.fdiv (2 ^ (min m.toNat k.bits)))) AR ?_) rfl trivial;simp [binOp,Op.shift,hm]
  ·rename_i h1 Q;replace h:=J6 h;obtain⟨M,h⟩:=h;have M:k=X:=E7 M;subst M;obtain⟨z,v,F,E,C⟩:=Fc (P:=P) (w:=w) (g:=g) (t:=t) h ⟨h1,Q⟩;exact Goal.val S i F (run v AR E) C trivial
 ·rename_i s s';obtain⟨W,O,rfl⟩:=f;obtain⟨T,N,rfl⟩:=c;rw [O,N] at run;obtain⟨z,v,F,E,C⟩:=Gl (P:=P) (w:=w) (g:=g) (t:=t) h;exact Goal.val S i F (run v As E) C trivial
 ·rename_i W T;have f:a.eval x = .bool W:=f;have c:a.eval y = .bool T:=c;rw [f,c] at run;split at h
  ·rename_i l;have hb:=Ab (P:=P) (w:=w) (t:=t) (b:=W) (b':=T) l (op:=op);split at h
   ·exact Goal.val S i h (run _ GY hb.1) rfl trivial
   ·exact Goal.val S i h (run _ GY hb.2) rfl trivial
   ·cases h
  ·cases h
 ·rename_i zs bs;obtain⟨xs,f,j⟩:=f;obtain⟨ys,c,H⟩:=c;rw [f,c] at run;obtain⟨B,h⟩:=J6 h;simp only [A9,D8] at B;obtain⟨⟨hg,hm⟩,B⟩:=B;split at B
  ·rename_i ts I;simp only [A9] at B;have he:=AU (P:=P) (w:=w) 8 (d:=10000) I (by omega) B.1 B.2 (by simp only [TV,hg,if_true];exact⟨xs,rfl,j⟩) (by simp only [TV,hg,if_true];exact⟨ys,rfl,H⟩);split at h
   ·refine Goal.val S i h (run _ (run_eqGuard_agg w _ t x y xs ys hm) ?_) rfl trivial;rw [run_eql_struct w t xs ys,he];rfl
   ·refine Goal.val S i h (run _ (run_eqGuard_agg w _ t x y xs ys hm) ?_) rfl trivial;rw [run_neq_struct w t xs ys,he];rfl
   ·cases h
  ·cases B
 ·rename_i sz xs e1 e2;obtain⟨A,cap,f,_,_,hA⟩:=f;have c:a.eval y = .slice none 0 0:=c;rw [f,c] at run;obtain⟨l,h⟩:=J6 h;obtain⟨e,l⟩:=Da l
  cases j:xs.isEmpty with
  |true=>
   simp only [j,cond_true] at h;split at h
   ·exact Goal.val S i h (run _ lZ (run_eql_slice_nil w t e A xs.length cap l)) ⟨_,rfl⟩ trivial
   ·exact Goal.val S i h (run _ lZ (run_neq_slice_nil w t e A xs.length cap l)) ⟨_,rfl⟩ trivial
   ·cases h
  |false=>
   (simp only [j,cond_false] at h;have L:xs≠[]:=fun e=>by rw [e] at j;cases j);obtain⟨ad,rfl,_⟩:=hA.resolve_left L;split at h
   ·exact Goal.val S i h (run _ lZ (run_eql_slice_nil w t e (some ad) xs.length cap l)) rfl trivial
   ·exact Goal.val S i h (run _ lZ (run_neq_slice_nil w t e (some ad) xs.length cap l)) rfl trivial
   ·cases h
 ·have f:a.eval x = .slice none 0 0:=f;have c:a.eval y = .slice none 0 0:=c;rw [f,c] at run;obtain⟨l,h⟩:=J6 h;obtain⟨e,l⟩:=Da l;split at h
  ·exact Goal.val S i h (run _ lZ (run_eql_slice_nil w t e none 0 0 l)) rfl trivial
  ·exact Goal.val S i h (run _ lZ (run_neq_slice_nil w t e none 0 0 l)) rfl trivial
  ·cases h
 ·cases h
def QY:∀ (b:List Int) (s:ByteArray),(b.foldl (fun r n=>r.push (UInt8.ofNat n.toNat)) s).data.toList=s.data.toList++b.map fun n=>UInt8.ofNat n.toNat
 |[],s=>by simp
 |n::b,s=>by rw [List.foldl_cons,QY b];simp [ByteArray.push]
def KT:∀ {xs:List D} {us:List Value} {sz:Nat},sO g.h sz xs us→zO xs=true→∃ c:List Int,us=c.map (Value.int .u8)∧xs.map toByte=c.map fun n=>UInt8.ofNat n.toNat
 |[],us,sz,h,_=>⟨[],h,rfl⟩
 |x::xs,us,sz,h,d=>by
  obtain⟨v,r,rfl,h1,i,b,f⟩:=h
  match x,d,b with
  | .int .u8 n,d,b=>have b:v = .int .u8 n:=b;subst b;obtain⟨c,rfl,e⟩:=KT f (by simpa [zO] using d);exact⟨n::c,rfl,by simp [toByte,e]⟩
def Fw (S:At u p g st a w)(c:∀ x,p x→q x){x:Operand}{src dst:TypeId}(F:o.op = .convert src dst x) (h:(match P.underlying src,P.underlying dst,R0 st x with
  |some (.int _),some (.int k),.d (.int _ n)=>K (.d (.int k (k.wrap n))) st
  |some (.int _),some .string,.d (.int _ n)=>bif decide (0≤n)&&decide (n<128) then K (.d (.str [UInt8.ofNat n.toNat])) st else none
  |some .string,some .string,.d (.str s)=>K (.d (.str s)) st
  |some (.slice e),some .string,x=>(match P.underlying e with
   |some (.int .u8)=>(match QL st.h x with
    |some (_,xs)=>bif zO xs then K (.d (.str (xs.map toByte))) st else none
    |none=>none)
   |_=>none)
  |_,_,_=>none)=some r):Goal u p q g st a w P o K r:=by
 have f:=S.ev x;have run:∀ v,(convert src dst (a.eval x)).run P w = .ok v w→(execOp a.eval o).run P w = .ok (.value v) w:=by intro v h1;simp only [execOp,F];simp [h1]
 split at h
 ·rename_i k n l t m;rw [m] at f;have f:=wQ f;refine Goal.val S c h (run _ ?_) rfl trivial;rw [f];simp [convert,run_underlying l,run_underlying t,Conv.intToInt]
 ·rename_i k n l t m;rw [m] at f;have f:=wQ f;obtain⟨B,h⟩:=J6 h;simp only [A9,decide_eq_true_eq] at B;refine Goal.val S c h (run (.string ⟨#[UInt8.ofNat n.toNat]⟩) ?_) ⟨_,rfl,rfl⟩ trivial;have e:Utf8.encode n=⟨#[UInt8.ofNat n.toNat]⟩:=by
   (have h1:Utf8.valid n=true:=by unfold Utf8.valid;simp;omega);unfold Utf8.encode;simp only [h1,if_true];rw [if_pos (by omega)]
  rw [f];simp [convert,run_underlying l,run_underlying t,Conv.intToString,e]
 ·rename_i s l t m;rw [m] at f;obtain⟨b,B,rfl⟩:=f;refine Goal.val S c h (run (.string b) ?_) ⟨b,rfl,rfl⟩ trivial;rw [B];simp [convert,run_underlying l,run_underlying t]
 ·rename_i e l t;split at h
  ·rename_i m;split at h
   ·(rename_i sz xs hl;obtain⟨C,h⟩:=J6 h;obtain⟨A,cap,us,H,L,J,I,D⟩:=xH S.hp f hl;obtain⟨y,z,i⟩:=KT I C;rw [H] at run;have j:xs.length=y.length:=by have:=congrArg List.length i;simpa using this);rw [run_convert_bytes_string w src dst e A xs.length cap l m t] at run;rcases D with rfl|⟨ad,rfl,D⟩
    ·have E:y=[]:=D1 (by rw [← j];rfl)
     cases A with
     |none=>exact Goal.val S c h (run (.string .empty) (by simp [Conv.bytesToString])) ⟨_,rfl,rfl⟩ trivial
     |some ad=>refine Goal.val S c h (run (.string .empty) ?_) ⟨_,rfl,rfl⟩ trivial;exact run_bytesToString w ad 0 cap [] (run_loadCells_list w ad [] (by simp))
    ·refine Goal.val S c h (run _ (run_bytesToString w ad xs.length cap y ?_)) ⟨_,rfl,?_⟩ trivial
     ·have:=run_loadCells_list (P:=P) w ad us D;rw [z] at this;rw [j];simpa using this
     ·rw [QY,i];rfl
   ·cases h
  ·cases h
 ·cases h
def XY (S:At u p g st a w)(C:∀ x,p x→q x){x i:Operand}{t:TypeId}(ho:o.op = .indexAddr t x i) (h:mY P t (R0 st x) (R0 st i) st K=some r):Goal u p q g st a w P o K r:=by
 have c:=S.ev x;have s:=S.ev i;have B:=S.eZ x;unfold mY at h;obtain⟨j,h⟩:=N9 h;rw [Bool.not_eq_false'] at j;have f:∃ e,oI P t=some e∧IV P e=true:=by
  split at j
  all_goals first
   |(simp only [A9] at j;exact⟨_,by assumption,j.1⟩)
   |cases j
 obtain⟨e,f,M⟩:=f;obtain⟨d,info,hd,D,_,L⟩:=lX M;have l:P.underlying t=some (.slice e):=by
  unfold oI at f;split at f
  ·rename_i I he;cases f;exact he
  ·cases f
 have X:P.elem t=e:=by simp [Program.elem,l]
 have run:∀ (ad:Addr) (len cap:Nat) (k:IntKind) (n:Int),a.eval x = .slice (some ad) len cap→a.eval i = .int k n→0≤n→n<len→(execOp a.eval o).run P w = .ok (.value (.pointer (some (ad.add (n.toNat*cA P e))))) w:=by intro ad len cap k n e1 e2 h1 h2;simp only [execOp,ho,e1,e2];simp [run_indexAt_slice w t ad len cap k n (by rw [X];exact l),h1,h2,X,lB D,L]
 split at h
 ·rename_i k n hi;rw [hi] at s;have s:=wQ s;split at h
  ·(rename_i sz xs E;rw [E] at c j;rw [f] at j;simp only [A9] at j;have F:cA P e=sz:=(B0 j.2).symm;obtain⟨v,h⟩:=J6 h;simp only [A9,decide_eq_true_eq] at v;obtain⟨A,cap,W,_,_,H⟩:=c;have N:xs≠[]:=by intro I;rw [I] at v;simp at v;omega);rcases H with H|⟨ad,rfl,H⟩
   ·exact absurd H N
   ·refine Goal.val S C h (run ad _ _ k n W s v.1 v.2) ?_ trivial;exact⟨ad,H,by omega,by rw [F,Nat.add_zero]⟩
  ·rename_i ro E;rw [E] at c j B;split at h
   ·rename_i I sz xs fz y;rw [f] at j;simp only [y,A9] at j;have F:cA P e=sz:=(B0 j.2).symm;obtain⟨v,h⟩:=J6 h;simp only [A9,decide_eq_true_eq] at v;have c:a.eval x=g.hdr ro:=c.1;rcases HG S.hp y with ⟨h1,rfl⟩|⟨b,cap,h1,h2,h3⟩
    ·simp at v;omega
    ·rw [h1] at c;refine Goal.val S C h (run _ _ _ k n c s v.1 v.2) ?_ B;refine⟨by rw [h1];simp only [JR];omega,b,by rw [h1];rfl,?_⟩;rw [R5,F];simp
   ·cases h
  ·rename_i ro z lo m E;rw [E] at c j B;split at h
   ·rename_i I sz xs fz y;rw [f] at j;simp only [A9] at j;have F:cA P e=z:=(B0 j.2).symm;obtain⟨v,h⟩:=J6 h;simp only [A9,decide_eq_true_eq] at v;obtain⟨⟨J,T⟩,Q⟩:=v;have J:z=sz:=B0 J;obtain⟨hln,A,cap,c,_,_,W⟩:=c;rcases W with rfl|⟨b,O,rfl⟩
    ·omega
    ·refine Goal.val S C h (run _ _ _ k n c s T Q) ?_ B;refine⟨by omega,b,O,?_⟩;rw [R5,F,← J,Nat.add_zero,Nat.add_mul]
   ·cases h
  ·cases h
 ·cases h
def ZM {x:V}{v:Value}(h:VV g x v):VL g (pY x) v:=by
 match x with
 | .tup _=>exact (trivial:VD g.h .top _)
 | .agg _=>exact (trivial:VD g.h .top _)
 | .fn f []=>exact h
 | .fn f (_::_)=>exact (trivial:VD g.h .top _)
 | .d x=>exact h
 | .ptr o off=>exact h
 | .el sz xs i off=>exact h
 | .rp o sz i off=>exact h
 | .row o=>exact h
 | .bp ..=>exact (trivial:VD g.h .top _)
 | .mp o=>exact h
 | .sub o sz b n=>exact h
def TH {x:V}(h:x.aU p):(pY x).pF p:=by
 match x with
 | .agg _=>trivial
 | .fn f []=>trivial
 | .fn f (_::_)=>trivial
 | .tup _=>trivial
 | .d x=>trivial
 | .ptr o off=>exact h
 | .el sz xs i off=>trivial
 | .rp o sz i off=>exact h
 | .row o=>exact h
 | .mp o=>exact h
 | .bp ..=>trivial
 | .sub o sz b n=>exact h
def Cg (S:At u p g st a w)(c:∀ x,p x→q x){f:FuncId}{first captured:Array Operand}(j:o.op = .makeFunc (.func f) first captured) (h:(bif captured.isEmpty&&first.isEmpty then K (.d (.fn f)) st else bif first.isEmpty then K (.fn f (captured.toList.map fun x=>pY (R0 st x))) st else none)=some r):Goal u p q g st a w P o K r:=by
 have run:first=#[]→(execOp a.eval o).run P w = .ok (.value (.func (.func f) #[] (captured.map a.eval))) w:=by intro e;subst e;simp [execOp,j,Instr.makeFunc]
 cases hb:(captured.isEmpty&&first.isEmpty) with
 |true=>rw [hb] at h;simp only [A9,Array.isEmpty_iff] at hb;obtain⟨rfl,b⟩:=hb;exact Goal.val S c h (run b) (show Value.func _ _ _=_ by simp) trivial
 |false=>
  rw [hb] at h;replace h:=J6 h;obtain⟨b,h⟩:=h;have b:first=#[]:=by simpa using b
  have k:∀ xs:List Operand,F2 (VL g) (xs.map fun x=>pY (R0 st x)) (xs.map a.eval):=by
   intro xs
   induction xs with
   |nil=>exact .nil
   |cons x xs ih=>exact .cons (ZM (S.ev x)) ih
  refine Goal.val S c h (run b) ?_ ?_
  ·cases hc:captured.toList with
   |nil=>rw [b] at hb;simp at hb;exact absurd (by simpa using hc) hb
   |cons x xs=>refine⟨captured.map a.eval,rfl,?_⟩;have:=k captured.toList;rw [hc] at this;simpa [hc] using this
  ·intro v i;obtain⟨x,_,rfl⟩:=List.mem_map.1 i;exact TH (S.eZ x)
def Ec {cs:List V}{v:Value}(h:VV g (.agg cs) v):∃ us:Array Value,v = .agg us∧F2 (VL g) cs us.toList:=h
def pJ {x:V}{v:Value}(h:VL g x v)(b:x.pF p):x.bO p:=by
 match x,b with
 | .agg _,_=>exact h.elim
 | .fn _ [],_=>intro v c;cases c
 | .fn _ (_::_),_=>exact h.elim
 | .tup _,_=>exact h.elim
 | .d _,_=>trivial
 | .ptr ..,k=>exact k
 | .el ..,_=>trivial
 | .rp ..,k=>exact k
 | .row _,k=>exact k
 | .mp _,k=>exact k
 | .bp ..,k=>exact k
 | .sub ..,k=>exact k
def F2.mem {α β:Type}{R:α→β→Prop}{zs:List α}{bs:List β}(h:F2 R zs bs):∀ x∈zs,∃ b∈bs,R x b:=by
 induction h with
 |nil=>intro x c;cases c
 |cons d _ ih=>
  intro x c;rcases B7.1 c with rfl|c
  ·exact⟨_,by simp,d⟩
  ·obtain⟨b,h1,e⟩:=ih x c;exact⟨b,by simp [h1],e⟩
def Ry (S:At u p g st a w)(m:∀ x,p x→q x){x:Operand}{t ft:TypeId}{k off:Nat}(ho:o.op = .field t x k)(hf:EX P t k=some (off,ft))(M:IV P ft=true)
  (h:(match R0 st x with
   | .d (.agg cs)=>bif Nat.ble (off+cA P ft) cs.length then (bif X7 P ft then K (.d (.agg ((cs.drop off).take (cA P ft)))) st else (match cs[off]? with|some z=>K (.d z) st|none=>none)) else none
   | .agg cs=>bif Nat.ble (off+cA P ft) cs.length then (bif X7 P ft then K (aY3 ((cs.drop off).take (cA P ft))) st else (match cs[off]? with|some z=>K z st|none=>none)) else none
   |_=>none)=some r):Goal u p q g st a w P o K r:=by
 obtain⟨fs,f,X,O,rfl,rfl⟩:=AY hf;obtain⟨d,info,F,l,n,B⟩:=lX M;have E:=S.ev x;have A:=S.eZ x;have run:∀ (us:Array Value) (v:Value),a.eval x = .agg us→(part f.type us f.offset).run P w = .ok v w→(execOp a.eval o).run P w = .ok (.value v) w:=by intro us v e1 e2;simp only [execOp,ho,Instr.field,e1];simp [run_underlying X,O,asAgg,e2]
 split at h
 ·rename_i cs Q;rw [Q] at E;obtain⟨us,i,j⟩:=E;obtain⟨N,h⟩:=J6 h
  cases hagg:iC d with
  |true=>rw [hagg] at n;rw [n] at h;refine Goal.val S m h (run us _ i (xW F l hagg)) ?_ trivial;refine⟨_,rfl,?_⟩;have:=NX (NW j f.offset) (cA P f.type);rw [← B];simpa [Array.toList_extract,List.extract_eq_take_drop] using this
  |false=>
   rw [hagg] at n;rw [n] at h;simp only [cond_false] at h;split at h
   ·rename_i z s;have C:f.offset<us.toList.length:=by
     rw [← EM j];exact (List.getElem?_eq_some_iff.1 s).1
    obtain⟨y,W,I⟩:=MV j (C2 C);rw [s] at W;cases W;exact Goal.val S m h (run us _ i (xX F hagg (by rw [← D0];exact C2 C))) I trivial
   ·cases h
 ·rename_i cs Q;rw [Q] at E A;obtain⟨us,i,j⟩:=Ec E;have D:∀ c∈cs,c.bO p:=fun c H=>by
   obtain⟨b,_,T⟩:=j.mem c H;exact pJ T (A c H)
  obtain⟨N,h⟩:=J6 h
  cases hagg:iC d with
  |true=>(rw [hagg] at n;rw [n] at h;refine Goal.val S m h (run us _ i (xW F l hagg)) ?_ (fH (rF fun c H=>D c (List.mem_of_mem_drop (List.mem_of_mem_take H))));have:=vZ (((j.drop f.offset).take (cA P f.type)).mono fun c _ b T=>mR T);rw [← B];have e:us.extract f.offset (f.offset+cA P f.type)=((us.toList.drop f.offset).take (cA P f.type)).toArray:=by apply Array.ext';simp [Array.toList_extract,List.extract_eq_take_drop]);rw [e];exact gX this
  |false=>
   rw [hagg] at n;rw [n] at h;simp only [cond_false] at h;split at h
   ·rename_i z s;obtain⟨v,L,J⟩:=j.get f.offset z s;exact Goal.val S m h (run us _ i (xX F hagg (by rw [← D0];exact L))) (gX (mR J)) (fH (D z (List.mem_of_getElem? s)))
   ·cases h
 ·cases h
end
end Go.AE
namespace Go.AE
open Go.RowKit
section
variable {u:Nat→Option Obj} {p q:Nat→Prop} {g:G} {st:St} {a:Act} {w:World} {P:Program} {o:Oper} {R:Type} {K:V→St→Option R} {r:R}
def BS (S:At u p g st a w){x:Option Operand}{d n:Int}(h:rH d (x.map (R0 st))=some n):(x=none∧n=d)∨∃ y k,x=some y∧a.eval y = .int k n:=by
 cases x with
 |none=>simp only [Option.map_none,rH,B1] at h;exact .inl ⟨rfl,h.symm⟩
 |some y=>
  right;simp only [Option.map_some] at h;have b:=S.ev y
  match he:R0 st y with
  | .d (.int k m)=>rw [he] at h b;simp only [rH,B1] at h;subst h;exact⟨y,k,rfl,b⟩
  | .d .top | .d (.bool _) | .d (.str _) | .d (.Z ..) | .d (.nils ..) | .d .und | .d (.agg _) | .d (.fn _) | .d .nilp | .d .nilf | .d .nilm | .d .nili | .d .ub | .d (.iface ..)=>rw [he] at h;simp [rH] at h
  | .ptr .. | .el .. | .rp .. | .row _ | .sub .. | .agg _ | .fn .. | .tup _ | .mp _ | .bp ..=>rw [he] at h;simp [rH] at h
def CJ (S:At u p g st a w){j i:Option Operand}{l h:Int}{b:Bool}{len cap:Nat}(f:rH 0 (j.map (R0 st))=some l)(d:rH len (i.map (R0 st))=some h) (h1:0≤l) (z:l≤h) (x:h≤len) (t:len≤cap) :(Instr.sliceBounds b len cap (j.map a.eval) (i.map a.eval) none).run P w = .ok (l.toNat,h.toNat,cap) w:=by
 have hh:∀ code,(match (i.map a.eval:Option Value),(none:Option Value) with
  |some v,some _=>(stuck "":Sem Nat)
  |some v,none=>Instr.sliceBound v cap code
  |none,none=>pure len
  |none,some _=>stuck "").run P w = .ok h.toNat w:=by
  intro code;rcases BS S d with ⟨rfl,rfl⟩|⟨y,k,rfl,e⟩
  ·simp
  ·simp only [Option.map_some,e];rw [run_sliceBound w k h cap code (by omega) (by omega)]
 have n:l≤(h.toNat:Int):=by omega
 rcases BS S d with ⟨rfl,rfl⟩|⟨y,k,rfl,e⟩<;>rcases BS S f with ⟨rfl,rfl⟩|⟨s,m,rfl,c⟩
 ·simp [Instr.sliceBounds]
 ·simp only [Instr.sliceBounds,Option.map_none,Option.map_some,c,Sem.run_bind,Sem.run_pure,Result.andThen_ok];rw [run_sliceBound w m l len _ h1 (by omega)];simp
 ·simp only [Instr.sliceBounds,Option.map_none,Option.map_some,e,Sem.run_bind,Sem.run_pure,Result.andThen_ok];rw [run_sliceBound w k h cap _ (by omega) (by omega)];simp
 ·simp only [Instr.sliceBounds,Option.map_some,e,c,Sem.run_bind,Sem.run_pure,Result.andThen_ok];rw [run_sliceBound w k h cap _ (by omega) (by omega)];simp only [Result.andThen_ok];rw [run_sliceBound w m l h.toNat _ h1 (by omega)];simp
def tX {t e:TypeId}(h:oI P t=some e):P.underlying t=some (.slice e):=by
 unfold oI at h;split at h
 ·rename_i c b;cases h;exact b
 ·cases h
def xY {t e:TypeId}(k:P.underlying t=some (.slice e))(f:IV P e=true){A:Option Addr}{len cap l h:Nat}{i j:Option Value} (m:(Instr.sliceBounds true len cap i j none).run P w = .ok (l,h,cap) w) :(Instr.sliceAt t (.slice A len cap) i j none).run P w = .ok (.slice (if cap=l then A else A.map (·.add (l*cA P e))) (h-l) (cap-l)) w:=by obtain⟨d,info,s,b,n,c⟩:=lX f;simp only [Instr.sliceAt,Sem.run_bind,run_underlying k,Result.andThen_ok,Instr.slice];simp [m,lB b,c]
def TC {t:TypeId}(d:P.underlying t=some .string){s:ByteArray}{l h:Nat}{b c:Option Value} (e:(Instr.sliceBounds false s.size s.size b c none).run P w = .ok (l,h,s.size) w) :(Instr.sliceAt t (.string s) b c none).run P w = .ok (.string (s.extract l h)) w:=by simp only [Instr.sliceAt,Sem.run_bind,run_underlying d,Result.andThen_ok,Instr.slice];simp [e]
def Of {hh:Nat→Option Obj}{sz:Nat}{xs:List D}{ad:Addr}(h:ZJ hh sz xs ad)(n:Nat):ZJ hh sz (xs.drop n) (ad.add (n*sz)):=by obtain⟨us,h1,c⟩:=vP h;refine rP (fun _ _ h=>h) (zK n h1) fun j v b=>?_;rw [List.getElem?_drop] at b;rw [fN];exact c _ v b
def Og {hh:Nat→Option Obj}{sz:Nat}{xs:List D}{ad:Addr}(h:ZJ hh sz xs ad)(n:Nat):ZJ hh sz (xs.take n) ad:=by
 obtain⟨us,h1,c⟩:=vP h;refine rP (fun _ _ h=>h) (zM n h1) fun j v b=>?_;rw [List.getElem?_take] at b;split at b
 ·exact c _ v b
 ·cases b
def Sc (S:At u p g st a w)(B:∀ x,p x→q x){x:Operand}{J O I:Option Operand}{t:TypeId}(X:o.op = .slice t x J O I) (h:CB P t (R0 st x) (J.map (R0 st)) (O.map (R0 st)) (I.map (R0 st)) st K=some r):Goal u p q g st a w P o K r:=by
 have z:=S.ev x;have C:=S.eZ x;unfold CB at h
 cases I with
 |some m=>cases h
 |none=>
  simp only [Option.map_none] at h;obtain⟨i,h⟩:=N9 h;rw [Bool.not_eq_false'] at i;have run:∀ v,(Instr.sliceAt t (a.eval x) (J.map a.eval) (O.map a.eval) none).run P w = .ok v w→(execOp a.eval o).run P w = .ok (.value v) w:=by intro v e;simp only [execOp,X,Option.map_none];simp [e]
  split at h
  ·rename_i s H;rw [H] at i z;have D:P.underlying t=some .string:=by
    split at i
    ·assumption
    all_goals first|cases i|(rename_i h1 j;cases j)
   obtain⟨b,hb,rfl⟩:=z;split at h
   ·rename_i l hh hl d;obtain⟨c,h⟩:=J6 h;simp only [A9,decide_eq_true_eq] at c;obtain⟨⟨h1,j⟩,y⟩:=c;have k:b.data.toList.length=b.size:=E4;rw [k] at d y;have f:=CJ (P:=P) (b:=false) S hl d h1 j y (B9 _);rw [hb] at run;refine Goal.val S B h (run _ (TC D f)) ⟨_,rfl,?_⟩ trivial;simp [ByteArray.data_extract,Array.toList_extract,List.extract_eq_take_drop]
   ·cases h
  ·rename_i sz xs H;rw [H] at i z;split at i
   ·rename_i j;cases j
   ·rename_i e T xs' D Q;cases Q;simp only [A9] at i;have M:cA P e=sz:=(B0 i.2).symm;obtain⟨A,cap,hA,hn,hcm,N⟩:=z;split at h
    ·(rename_i l hh hl d;obtain⟨c,h⟩:=J6 h;simp only [A9,decide_eq_true_eq] at c;obtain⟨⟨h1,j⟩,y⟩:=c;have f:=CJ (P:=P) (b:=true) S hl d h1 j y hn;rw [hA] at run;refine Goal.val S B h (run _ (xY D i.1 f)) ?_ trivial;have k:((xs.drop l.toNat).take (hh.toNat-l.toNat)).length=hh.toNat-l.toNat:=by simp;omega);refine⟨_,_,by rw [k],by omega,by omega,?_⟩;by_cases hz:hh.toNat-l.toNat=0
     ·left;rw [hz];rfl
     ·right;rcases N with rfl|⟨ad,rfl,N⟩
      ·simp at y;omega
      ·rw [if_neg (by omega)];refine⟨_,rfl,?_⟩;rw [M];exact Og (Of N _) _
    ·cases h
   ·rename_i j;cases j
   ·cases i
  ·rename_i ro H;rw [H] at i z C;split at h
   ·rename_i e' sz xs fz F;obtain⟨n,h⟩:=N9 h;rw [Bool.not_eq_false'] at n;split at n
    ·rename_i e D;simp only [D] at i;simp only [A9] at n;have M:sz=cA P e:=B0 n.2;have z:a.eval x=g.hdr ro:=z.1;split at h
     ·rename_i l hh hl d;replace h:=J6 h;obtain⟨c,h⟩:=h;simp only [A9,decide_eq_true_eq] at c;obtain⟨⟨h1,j⟩,y⟩:=c;rcases HG S.hp F with ⟨E,L⟩|⟨b,cap,E,W,k3⟩
      ·rw [z,E] at run;rw [L] at y d;have f:=CJ (P:=P) (b:=true) S hl d h1 j y (B9 _);refine Goal.val S B h (run _ (xY D i f)) ?_ C;simp only [A8] at y;refine⟨by rw [E];simp [JR];omega,_,_,rfl,by omega,by simp [maxLen],.inl (by omega)⟩
      ·rw [z,E] at run;have f:=CJ (P:=P) (b:=true) S hl d h1 j y W;refine Goal.val S B h (run _ (xY D i f)) ?_ C;refine⟨by rw [E];simp [JR];omega,_,_,rfl,by omega,by omega,?_⟩;by_cases hz:hh.toNat-l.toNat=0
       ·exact .inl hz
       ·right;refine⟨b,by rw [E];rfl,?_⟩;rw [if_neg (by omega),Option.map_some,R5,M,C5]
     ·cases h
    ·cases n
   ·cases h
  ·cases h
end
end Go.AE
namespace Go.AE
open Go.RowKit
section
variable {u:Nat→Option Obj} {p q:Nat→Prop} {g:G} {st:St} {h h':Nat→Option Ob} {a:Act} {w w':World} {P:Program} {o:Oper} {R:Type} {K:V→St→Option R} {r:R}
def beq_iff {x y:Nat}:Nat.beq x y=true↔x=y:=⟨B0,fun e=>by subst e;exact Nat.beq_refl x⟩
def bT (st:St)(o:Nat)(ob:Option Ob)(x:Nat):(st.nM o ob).h x=if x=o then ob else st.h x:=by
 simp only [St.nM];by_cases e:x=o
 ·rw [if_pos e,beq_iff.2 e];rfl
 ·rw [if_neg e]
  cases k:Nat.beq x o with
  |true=>exact absurd (beq_iff.1 k) e
  |false=>rfl
def JG {x:V}{v:Value}(e:oH x=true)(c:VV g x v):v.oneCell'=true:=by
 match x,e,c with
 | .d (.bool _),_,c=>have c:v=_:=c;subst c;rfl
 | .d (.int _ _),_,c=>have c:v=_:=c;subst c;rfl
 | .d (.str _),_,c=>obtain⟨b,rfl,_⟩:=c;rfl
 | .d (.Z _ _),_,c=>obtain⟨A,cap,rfl,_⟩:=c;rfl
 | .d (.nils _ _),_,c=>have c:v=_:=c;subst c;rfl
 | .d (.fn _),_,c=>have c:v=_:=c;subst c;rfl
 | .d .nilp,_,c=>have c:v=_:=c;subst c;rfl
 | .d .nilf,_,c=>have c:v=_:=c;subst c;rfl
 | .d .nilm,_,c=>have c:v=_:=c;subst c;rfl
 | .d .nili,_,c=>have c:v=_:=c;subst c;rfl
 | .d .ub,_,c=>obtain⟨_,rfl⟩:=c;rfl
 | .d (.iface _ _),_,c=>obtain⟨_,rfl,_⟩:=c;rfl
 | .ptr _ _,_,c=>have c:v=_:=c;subst c;rfl
 | .el ..,_,c=>obtain⟨_,_,_,rfl⟩:=c;rfl
 | .rp ..,_,c=>obtain⟨_,_,_,rfl⟩:=c;rfl
 | .sub ..,_,c=>obtain⟨_,_,_,rfl,_⟩:=c;rfl
 | .fn _ [],_,c=>have c:v=_:=c;subst c;rfl
 | .fn _ (_::_),_,c=>obtain⟨_,rfl,_⟩:=c;rfl
 | .row ro,_,c=>exact c.2
 | .mp _,_,c=>have c:v=_:=c;subst c;rfl
 | .bp ..,_,c=>rcases (c:v=_∨v=_) with rfl|rfl<;>rfl
def rS {x:V}{v:Value}(k:gO x=true)(i:VV g x v)(j:x.aU p) :F2 (VA g) x.cells v.cells.toList∧(∀ y∈v.cells.toList,y.oneCell'=true)∧(∀ c∈x.cells,c.bO p):=by
 have one:∀ (cs:List V) (us:List Value),F2 (VA g) cs us→cs.all oH=true→∀ y∈us,y.oneCell'=true:=by
  intro cs us n
  induction n with
  |nil=>intro _ y m;cases m
  |cons h1 _ ih=>
   intro l y m;simp only [List.all_cons,A9] at l;rcases B7.1 m with rfl|m
   ·exact JG l.1 (gX h1)
   ·exact ih l.2 y m
 have single:x.cells=[x]→oH x=true→VA g x v→x.bO p→F2 (VA g) x.cells v.cells.toList∧(∀ y∈v.cells.toList,y.oneCell'=true)∧(∀ c∈x.cells,c.bO p):=by
  intro e h1 B A;have z:=JG h1 i;rw [e,CO z];refine⟨.cons B .nil,?_,?_⟩
  ·intro y m;simp at m;subst m;exact z
  ·intro c k;simp at k;subst k;exact A
 have f:x.cells=[x]→oH x=true:=by intro e;unfold gO at k;rw [e] at k;simpa using k
 match x,k,i,j,one,single,f with
 | .d (.agg cs),k,i,_,one,_,_=>obtain⟨us,rfl,h1⟩:=i;have n:F2 (VA g) (cs.map V.d) us.toList:=F2.HU (((mS _ _ _).1 h1).mono fun c _ b t=>t);exact⟨n,one _ _ n k,fun c k=>by obtain⟨d,_,rfl⟩:=List.mem_map.1 k;trivial⟩
 | .agg cs,k,i,j,one,_,_=>obtain⟨us,rfl,h1⟩:=Ec i;have n:F2 (VA g) cs us.toList:=h1.mono fun c _ b t=>mR t;exact⟨n,one _ _ n k,fun c s=>by obtain⟨b,_,t⟩:=h1.mem c s;exact pJ t (j c s)⟩
 | .tup C,_,i,_,_,_,f=>have:=f rfl;simp [oH] at this
 | .d .top,_,i,_,_,single,f=>exact single rfl (f rfl) i trivial
 | .d .und,_,i,_,_,single,f=>exact single rfl (f rfl) i trivial
 | .d (.bool _),_,i,_,_,single,f=>exact single rfl (f rfl) i trivial
 | .d (.int _ _),_,i,_,_,single,f=>exact single rfl (f rfl) i trivial
 | .d (.str _),_,i,_,_,single,f=>exact single rfl (f rfl) i trivial
 | .d (.Z _ _),_,i,_,_,single,f=>exact single rfl (f rfl) i trivial
 | .d (.nils _ _),_,i,_,_,single,f=>exact single rfl (f rfl) i trivial
 | .d (.fn _),_,i,_,_,single,f=>exact single rfl (f rfl) i trivial
 | .d .nilp,_,i,_,_,single,f=>exact single rfl (f rfl) i trivial
 | .d .nilf,_,i,_,_,single,f=>exact single rfl (f rfl) i trivial
 | .d .nilm,_,i,_,_,single,f=>exact single rfl (f rfl) i trivial
 | .d .nili,_,i,_,_,single,f=>exact single rfl (f rfl) i trivial
 | .d .ub,_,i,_,_,single,f=>exact single rfl (f rfl) i trivial
 | .d (.iface _ _),_,i,_,_,single,f=>exact single rfl (f rfl) i trivial
 | .ptr _ _,_,i,j,_,single,f=>exact single rfl (f rfl) i j
 | .el ..,_,i,j,_,single,f=>exact single rfl (f rfl) i trivial
 | .rp ..,_,i,j,_,single,f=>exact single rfl (f rfl) i j
 | .row _,_,i,j,_,single,f=>exact single rfl (f rfl) i j
 | .mp _,_,i,j,_,single,f=>exact single rfl (f rfl) i j
 | .sub ..,_,i,j,_,single,f=>exact single rfl (f rfl) i j
 | .fn _ [],_,i,j,_,single,f=>exact single rfl (f rfl) i j
 | .fn _ (_::_),_,i,j,_,single,f=>exact single rfl (f rfl) i j
def LQ (S:aS u p g h w)(m:∀ x,p x→q x){no:Nat}(s:¬ p no)(l:q no){cs:List V}{us:Array Value}{e:TypeId}(C:F2 (fun c v=>(c.bO p∧VA g c v)∨(∃ t f,c = .bp t no f∧v = .pointer none)) cs us.toList) (h1:∀ y∈us.toList,y.oneCell'=true) (A:∀ t o' f,V.bp t o' f∈cs→e=t) (hh:∀ x,h' x=if x=no then some (.var cs) else h x) :∃ g',U5 p g g'∧g'.h=g.h∧g'.hdr=g.hdr∧g'.blk no=w.heap.size∧aS u q g' h' (w.alloc (.cells us e)):=by
 have B:U5 p g ⟨g.h,fun x=>if x=no then w.heap.size else g.blk x,g.hdr⟩:=⟨fun _ _ h=>h,fun x d=>by have:x≠no:=fun e=>s (e▸d);simp [this],fun _ _=>rfl⟩;refine⟨_,B,rfl,rfl,by simp,?_⟩;refine S.update B rfl none (fun k E _=>heap_alloc_old w _ E) (fun b j=>by cases j) m no ?_ ?_
 ·intro o' x d z;rw [hh,if_neg z] at d;exact⟨d,fun b _ e=>by cases e⟩
 ·intro x d;rw [hh,if_pos rfl] at d;simp only [B1] at d;subst d;refine⟨⟨us,e,?_,C.mono fun c i b j=>?_,h1,A⟩,?_,l,fun c i=>?_⟩
  ·simp only [if_true];exact heap_alloc_new w _
  ·rcases j with ⟨n,j⟩|⟨t,f,rfl,rfl⟩
   ·exact VA.agree B n j
   ·exact (Or.inl rfl:VL _ (.bp t no f) _)
  ·intro b j;simp only [pC,if_true,B1] at j;exact .inr (by omega)
  ·have:∀ {cs:List V} {us:List Value},F2 (fun c v=>(c.bO p∧VA g c v)∨(∃ t f,c = .bp t no f∧v = .pointer none)) cs us→∀ c∈cs,c.bO q:=by
    intro cs us h
    induction h with
    |nil=>intro c i;cases i
    |cons D _ ih=>
     intro c i;rcases B7.1 i with rfl|i
     ·rcases D with ⟨n,_⟩|⟨t,f,rfl,_⟩
      ·exact n.mono m
      ·exact l
     ·exact ih c i
   exact this C c i
def QQ (S:aS u p g h w)(d:∀ x,p x→q x){no:Nat}(i:¬ p no)(b:q no){cs:List V}{us:Array Value}{e:TypeId}(n:F2 (VA g) cs us.toList) (h1:∀ y∈us.toList,y.oneCell'=true) (k:∀ c∈cs,c.bO p) (j:∀ t o' f,V.bp t o' f∈cs→e=t) (hh:∀ x,h' x=if x=no then some (.var cs) else h x) :∃ g',U5 p g g'∧g'.h=g.h∧g'.hdr=g.hdr∧g'.blk no=w.heap.size∧aS u q g' h' (w.alloc (.cells us e)):=LQ S d i b (n.mono fun c l _ m=> .inl ⟨k c l,m⟩) h1 j hh
def xQ {vv:V}(h:gO vv=true){t o f:Nat}:V.bp t o f∉vv.cells:=fun hm=>by have:=B6.1 h _ hm;simp [oH] at this
def F2.aO6 {α β:Type}{R:α→β→Prop}{zs:List α}{bs:List β}(h:F2 R zs bs):∀ {j:Nat} {a:α} {b:β},bs[j]? = some b→R a b→F2 R (zs.set j a) bs:=by
 induction h with
 |nil=>intro j a b c;simp at c
 |cons f e ih=>
  intro j a b c d
  cases j with
  |zero=>simp at c;subst c;exact .cons d e
  |succ j=>exact .cons f (ih (by simpa using c) d)
def kB (S:aS u p g h w)(m:∀ x,p x→q x){no:Nat}(n:¬ p no)(l:q no){e sz:Nat}{xs:List D}{v:Value}{us:List Value}{row:Option Nat} (z:w.grownBy w' row) (f:w'.ownsRow 0 e sz v xs.length us) (k:0<sz) (A:sO g.h sz xs us) (d:∀ b,row=some b→g.h b=none∧u b=none) (j:∀ b,v.ownBlock=some b→some b=row∨w.heap.size≤b) (i:∀ o' x,h' o'=some x→o'≠no→h o'=some x∧∀ b,pC g o' x=some b→some b≠row) (y:h' no=some (.row e sz xs false)) :∃ g',U5 p g g'∧g'.h=g.h∧g'.blk=g.blk∧g'.hdr no=v∧aS u q g' h' w':=by have t:U5 p g ⟨g.h,g.blk,fun x=>if x=no then v else g.hdr x⟩:=⟨fun _ _ h=>h,fun _ _=>rfl,fun x c=>by have:x≠no:=fun e=>n (e▸c);simp [this]⟩;refine⟨_,t,rfl,rfl,by simp,?_⟩;refine S.update t rfl row z.block d m no i ?_;intro x c;rw [y] at c;simp only [B1] at c;subst c;refine⟨⟨us,k,by simpa using f,A⟩,?_,l,trivial⟩;intro b s;simp only [pC,if_true] at s;exact j b s
def JM {g':G}{row:Option Nat}(b:w.grownBy w' row)(c:U5 p g g'):Ext g w g' w':=⟨c.h,b.os,b.tape,b.output,b.size⟩
def tK {g':G}{x:Obj}(b:U5 p g g'):Ext g w g' (w.alloc x):=⟨b.h,rfl,rfl,rfl,by simp⟩
def uB (w:World)(row:Option Nat):w.grownBy w row:=⟨rfl,rfl,rfl,B9 _,fun _ _ _=>rfl⟩
def oD (p q:Nat→Prop)(nid:Nat):Prop:=∀ k,k<32→¬ p (nid+k)∧q (nid+k)
def oD.zero {nid:Nat}(h:oD p q nid):¬ p nid∧q nid:=h 0 (by omega)
def YH {K:V→St→Option R}(S:aS u p g st.h w)(f:∀ x,p x→q x){no:Nat}(z:¬ p no)(n:q no){t:TypeId}{vv:V}{v:Value}(c:VV g vv v)(i:vv.aU p) (h:FH P t no vv st K=some r) :∃ g' j st',K j st'=some r∧aS u q g' st'.h w∧U5 p g g'∧g'.h=g.h∧g'.blk=g.blk∧VV g' j v∧j.aU q∧st'.t=st.t∧st'.m=st.m∧(∀ x,x≠no→st'.h x=st.h x)∧(gO vv=true→gO j=true)∧(oH vv=true→oH j=true)∧(oH vv=true→j.bO q∧VA g' j v):=by
 unfold FH at h;split at h
 ·rename_i x y;split at h
  ·(rename_i e E;obtain⟨l,h⟩:=J6 h;have l:0<cA P e:=by have h1:Nat.ble 1 (cA P e)=true:=l;exact B3 h1);have c:v = .slice none 0 0:=c;subst c;obtain⟨g',a1,a2,a3,a4,D⟩:=kB (h':=(newRow st no e (cA P e) []).h) S f z n (e:=e) (sz:=cA P e) (xs:=[]) (v:= .slice none 0 0) (us:=[]) (row:=none) (uB w none) (World.ownsRow_nil w 0 e (cA P e)) l rfl (fun b A=>by cases A) (fun b A=>by cases A) (fun o' x B s=>by rw [newRow,bT,if_neg s] at B;exact⟨B,fun _ _ e=>by cases e⟩) (by rw [newRow,bT,if_pos rfl]);have C:VL g' (.row no) (.slice none 0 0):=⟨a4.symm,rfl⟩;refine⟨g',.row no,_,h,D,a1,a2,a3,C,n,rfl,rfl,?_,fun _=>rfl,fun _=>rfl,fun _=>⟨n,C⟩⟩;intro x s;rw [newRow,bT,if_neg s]
  ·cases h
 ·refine⟨g,vv,st,h,S.more f,U5.refl p g,rfl,rfl,c,i.mono f,rfl,rfl,fun _ _=>rfl,id,id,?_⟩;intro k
  match vv,k,c,i with
  | .d (.agg _),k,_,_=>simp [oH] at k
  | .agg _,k,_,_=>simp [oH] at k
  | .tup _,k,_,_=>simp [oH] at k
  | .d _,_,c,_=>exact⟨trivial,c⟩
  | .ptr ..,_,c,i=>exact⟨f _ i,c⟩
  | .el ..,_,c,i=>exact⟨trivial,c⟩
  | .rp ..,_,c,i=>exact⟨f _ i,c⟩
  | .row _,_,c,i=>exact⟨f _ i,c⟩
  | .mp _,_,c,i=>exact⟨f _ i,c⟩
  | .bp ..,k,_,_=>simp [oH] at k
  | .sub ..,_,c,i=>exact⟨f _ i,c⟩
  | .fn _ [],_,c,i=>exact⟨V.bO.mono f (x:= .fn _ []) i,c⟩
  | .fn _ (_::_),_,c,i=>exact⟨V.bO.mono f (x:= .fn _ (_::_)) i,c⟩
def Goal.res {vv:V}{st':St}{v:Value}{g':G}(j:K vv st'=some r)(f:(execOp a.eval o).run P w = .ok (.value v) w')(e:aS u q g' st'.h w')(l:U5 p g g')(k:Ext g w g' w')(b:VV g' vv v)(c:vv.aU q)(d:st'.t=st.t)(i:st'.m=st.m) :Goal u p q g st a w P o K r:=⟨vv,st',j,.inl ⟨v,w',f,g',e,l,k,b,c,d,i⟩⟩
def Goal.skip {st':St}{g':G}(f:K .top st'=some r)(d:(execOp a.eval o).run P w = .ok .skip w')(c:aS u q g' st'.h w')(j:U5 p g g')(i:Ext g w g' w')(b:st'.t=st.t)(e:st'.m=st.m) :Goal u p q g st a w P o K r:=⟨.top,st',f,.inr (.inl ⟨w',d,g',c,j,i,(trivial:VD g'.h .top _),trivial,b,e⟩)⟩
def Me (S:At u p g st a w)(b:∀ x,p x→q x){nid:Nat}(c:oD p q nid){x:Operand}(i:o.op = .assign x) (h:(force (R0 st x) fun v=>match v with
  | .d (.nils _ _)=>bif gZ P o.type then FH P o.type nid v st K else K v st
  |v=>K v st)=some r):Goal u p q g st a w P o K r:=by
 rw [rB] at h;have plain:K (R0 st x) st=some r→Goal u p q g st a w P o K r:=fun h=>⟨_,_,h,Iy S b (.inr i)⟩;split at h
 ·rename_i e sz y
  cases hs:gZ P o.type with
  |false=>rw [hs] at h;exact plain h
  |true=>rw [hs] at h;simp only [cond_true] at h;obtain⟨g',j,st',t,s,f,k4,_,n,m,l,k,_⟩:=YH S.hp b c.zero.1 c.zero.2 (S.ev x) (S.eZ x) h;exact Goal.res t (v:=a.eval x) (w':=w) (by simp [execOp,i]) s f ⟨f.h,rfl,rfl,rfl,B9 _⟩ n m l k
 ·exact plain h
def MI {hh:Nat→Option Obj}{t:TypeId}{x:D}{v:Value}(h:VD hh x v):VD hh (zeroCell P t x) v:=by
 unfold zeroCell;split
 ·split
  ·exact h
  ·exact h
 ·exact h
def IP {hh:Nat→Option Obj}:∀ {ts:List TypeId} {xs:List D} {us:List Value},yW hh xs us→yW hh (zeroCells P ts xs) us
 |[],xs,us,h=>by cases xs<;>exact h
 |t::ts,[],us,h=>h
 |t::ts,x::xs,us,h=>by obtain⟨v,r,rfl,h1,b⟩:=h;exact⟨v,r,rfl,MI h1,IP b⟩
def FY {t:TypeId}{z:D}(h:RT P t=some z):∃ i b,P.info? t=some i∧i.zero=some b∧∀ hh,VD hh z b:=by
 unfold RT at h;split at h
 ·rename_i i f;split at h
  ·rename_i b e;refine⟨i,b,f,e,fun hh=>?_⟩;have d:=GR hh b;split at h
   ·rename_i cs c;rw [c] at d;simp only [B1] at h;subst h;obtain⟨us,rfl,h1⟩:=d;exact⟨us,rfl,IP h1⟩
   ·simp only [B1] at h;subst h;exact MI d
  ·cases h
 ·cases h
def mkVar (S:At u p g st a w)(i:∀ x,p x→q x){nid:Nat}(b:oD p q nid){t:TypeId}{vv:V}{v:Value}(d:gO vv=true)(j:VV g vv v)(k:vv.aU p) (c:(execOp a.eval o).run P w = .ok (.value (.pointer (some ⟨w.heap.size,0,none⟩))) (w.alloc (.cells v.cells t))) (h:K (.ptr nid 0) (newVar st nid vv.cells)=some r):Goal u p q g st a w P o K r:=by obtain⟨n,m,l⟩:=rS d j k;obtain⟨g',a1,a2,a3,a4,s⟩:=QQ (h':=(newVar st nid vv.cells).h) (e:=t) S.hp i b.zero.1 b.zero.2 n m l (fun t o' f hm=>absurd hm (xQ d)) (fun x=>by rw [newVar,bT]);exact Goal.res h c s a1 (tK a1) (by show _=_;rw [show g'.blk nid=w.heap.size from a4]) b.zero.2 rfl rfl
def Bw (S:At u p g st a w)(s:∀ x,p x→q x){nid:Nat}(d:oD p q nid){t y:TypeId}{vv:V}{v:Value}(l:gO vv=true)(I:VV g vv v)(J:vv.aU p) (j:(execOp a.eval o).run P w = .ok (.value (.pointer (some ⟨w.heap.size,0,none⟩))) (w.alloc (.cells v.cells y))) (h:(FH P t (nid+1) vv st fun v st=>K (.ptr nid 0) (newVar st nid v.cells))=some r):Goal u p q g st a w P o K r:=by
 obtain⟨g1,m,mJ,H,E,n,k4,Q,D,C,B,A,F,i,_⟩:=YH (q:=fun x=>p x∨x=nid+1) S.hp (fun x c=> .inl c) (d 1 (by omega)).1 (.inr rfl) I J h;have k:∀ x,(p x∨x=nid+1)→q x:=by
  intro x c;rcases c with c|rfl
  ·exact s x c
  ·exact (d 1 (by omega)).2
 obtain⟨N,M,L⟩:=rS (i l) D C;obtain⟨g',a1,a2,a3,a4,O⟩:=QQ (h':=(newVar mJ nid m.cells).h) (e:=y) (no:=nid) E k (by intro e;rcases e with e|e;exact d.zero.1 e;omega) d.zero.2 N M L (fun t o' f hm=>absurd hm (xQ (i l))) (fun x=>by rw [newVar,bT]);have z:U5 p g g':=⟨fun b x e=>a1.h b x (n.h b x e),fun x c=>(a1.blk x (.inl c)).trans (n.blk x c),fun x c=>(a1.hdr x (.inl c)).trans (n.hdr x c)⟩;exact Goal.res H j O z (tK z) (by show _=_;rw [a4]) d.zero.2 B A
def Rm {c:sN}(S:At u p g st a w)(z:∀ x,p x→q x){nid:Nat}(j:oD p q nid){t:TypeId}{vv:V}{v:Value}(s:gO vv=true)(I:VV g vv v)(J:vv.aU p) (k:(execOp a.eval o).run P w = .ok (.value (.pointer (some ⟨w.heap.size,0,none⟩))) (w.alloc (.cells v.cells t))) (h:OK c t nid vv.cells st K=some r):Goal u p q g st a w P o K r:=by
 unfold OK at h;split at h
 ·rename_i cs' h' i;unfold OJ at i;split at i
  ·simp only [B1,C7] at i;obtain⟨rfl,rfl⟩:=i;exact mkVar S z j s I J k h
  ·rename_i off L;split at i
   ·(rename_i e sz e1 Q;obtain⟨l,i⟩:=J6 i;have l:0<sz:=by have h1:Nat.ble 1 sz=true:=l;exact B3 h1);simp only [B1,C7] at i;obtain⟨rfl,rfl⟩:=i;obtain⟨F,X,N⟩:=rS s I J;obtain⟨b0,D,n⟩:=F.get off _ e1;obtain⟨b1,C,m⟩:=F.get (off+1) _ Q;have n:b0 = .pointer none:=n;have m:b1 = .slice none 0 0:=m;subst n;subst m;have y:∀ x,(p x∨x=nid+1)→q x:=by
     intro x d;rcases d with d|rfl
     ·exact z x d
     ·exact (j 1 (by omega)).2
    obtain⟨g1,a1,a2,a3,a4,a5⟩:=kB (q:=fun x=>p x∨x=nid+1) (h':=fun x=>bif Nat.beq x (nid+1) then some (.row e sz [] false) else st.h x) S.hp (fun x d=> .inl d) (no:=nid+1) (j 1 (by omega)).1 (.inr rfl) (e:=e) (sz:=sz) (xs:=[]) (v:= .slice none 0 0) (us:=[]) (row:=none) (uB w none) (World.ownsRow_nil w 0 e sz) l rfl (fun b i=>by cases i) (fun b i=>by cases i) (fun o' x d B=>by (have O:Nat.beq o' (nid+1)=false:=by rw [← Bool.not_eq_true];intro A;exact B (B0 A));simp only [O,cond_false] at d;exact⟨d,fun _ _ e=>by cases e⟩) (by simp [Nat.beq_refl]);have F0:F2 (fun c v=>(c.bO (fun x=>p x∨x=nid+1)∧VA g1 c v)∨(∃ t f,c = .bp t nid f∧v = .pointer none)) vv.cells v.cells.toList:=F.mono fun c A b i=> .inl ⟨(N c A).mono fun x d=> .inl d,VA.agree a1 (N c A) i⟩;have F1:=F0.aO6 (a:= .bp t nid off) D (.inr ⟨t,off,rfl,rfl⟩);have H:=F1.aO6 (a:= .row (nid+1)) C (.inl ⟨.inr rfl,(⟨a4.symm,rfl⟩:VL g1 (.row (nid+1)) _)⟩);obtain⟨g',E,d2,d3,W,T⟩:=LQ (h':=(newVar { st with h:=fun x=>bif Nat.beq x (nid+1) then some (.row e sz [] false) else st.h x } nid ((vv.cells.set off (.bp t nid off)).set (off+1) (.row (nid+1)))).h) (e:=t) (no:=nid) a5 y (by intro e;rcases e with e|e;exact j.zero.1 e;omega) j.zero.2 H X (fun t' o' f hm=>by
      rcases List.mem_or_eq_of_mem_set hm with hm|hm
      ·rcases List.mem_or_eq_of_mem_set hm with hm|hm
       ·exact absurd hm (xQ s)
       ·cases hm;rfl
      ·cases hm) (fun x=>by rw [newVar,bT])
    have M:U5 p g g':=⟨fun b x e=>E.h b x (a1.h b x e),fun x d=>(E.blk x (.inl d)).trans (a1.blk x d),fun x d=>(E.hdr x (.inl d)).trans (a1.hdr x d)⟩;exact Goal.res h k T M (tK M) (by show _=_;rw [W]) j.zero.2 rfl rfl
   ·cases i
 ·cases h
def Rv {c:sN}(S:At u p g st a w)(e:∀ x,p x→q x){nid:Nat}(j:oD p q nid){t:TypeId}(s:o.op = .alloc t) (h:(match RT P t with
  |some z=>bif gO (.d z) then (bif gZ P t then FH P t (nid+1) (.d z) st fun v st=>K (.ptr nid 0) (newVar st nid v.cells) else OK c t nid (V.d z).cells st K) else none
  |none=>none)=some r):Goal u p q g st a w P o K r:=by
 split at h
 ·rename_i z n;obtain⟨i,m,y,k,l⟩:=FY n;obtain⟨f,h⟩:=J6 h;have b:(execOp a.eval o).run P w = .ok (.value (.pointer (some ⟨w.heap.size,0,none⟩))) (w.alloc (.cells m.cells t)):=by
   simp [execOp,s,Instr.alloc,zeroValue,typeInfo,y,k,Go.newVar,Go.newRow]
  cases hs:gZ P t with
  |true=>rw [hs] at h;exact Bw S e j f (l _) trivial b h
  |false=>rw [hs] at h;exact Rm (vv:= .d z) S e j f (l _) trivial b h
 ·cases h
def aE7 {c:sN}(S:At u p g st a w)(e:∀ x,p x→q x){nid:Nat}(f:oD p q nid){t:TypeId}{x:Operand}(i:o.op = .box t x) (h:(bif !(gO (R0 st x)) then none else bif gZ P t then FH P t (nid+1) (R0 st x) st fun v st=>K (.ptr nid 0) (newVar st nid v.cells) else bif Nat.beq (R0 st x).cells.length (cA P t) then OK c t nid (R0 st x).cells st K else none)=some r):Goal u p q g st a w P o K r:=by
 obtain⟨d,h⟩:=N9 h;rw [Bool.not_eq_false'] at d;have b:(execOp a.eval o).run P w = .ok (.value (.pointer (some ⟨w.heap.size,0,none⟩))) (w.alloc (.cells (a.eval x).cells t)):=by simp [execOp,i,Instr.box,Go.newVar,Go.newRow]
 cases hs:gZ P t with
 |true=>rw [hs] at h;exact Bw S e f d (S.ev x) (S.eZ x) b h
 |false=>rw [hs] at h;simp only [cond_false] at h;obtain⟨_,h⟩:=J6 h;exact Rm S e f d (S.ev x) (S.eZ x) b h
def LA:∀ (b:List Value) (k off:Nat) (cs:Array Value),((b.zipIdx k).foldl (fun cs (x:Value×Nat)=>cs.setIfInBounds (off+x.2) x.1) cs).toList=setAt cs.toList (off+k) b
 |[],k,off,cs=>by simp [setAt]
 |v::b,k,off,cs=>by simp only [List.zipIdx_cons,List.foldl_cons];rw [LA b (k+1) off];simp only [setAt,Array.toList_setIfInBounds,Nat.add_assoc]
def PM (b:Array Value)(off:Nat)(cs:Array Value):(b.zipIdx.foldl (fun cs (x:Value×Nat)=>cs.setIfInBounds (off+x.2) x.1) cs).toList=setAt cs.toList off b.toList:=by rw [← Array.foldl_toList];have:=LA b.toList 0 off cs;simpa using this
def tG {α:Type}:∀ (ys xs:List α) (off:Nat),(setAt xs off ys).length=xs.length
 |[],xs,off=>rfl
 |y::ys,xs,off=>by simp only [setAt];rw [tG ys];simp
def F2.setAt {α β:Type}{R:α→β→Prop}{xs:List α}{ys:List β}(c:F2 R xs ys):∀ {zs:List α} {bs:List β} (off:Nat),F2 R zs bs→F2 R (AE.setAt zs off xs) (AE.setAt bs off ys):=by
 induction c with
 |nil=>intro zs bs off h;exact h
 |cons b _ ih=>intro zs bs off h;exact ih (off+1) (h.set b off)
def nZ {α:Type}:∀ (ys xs:List α) (off:Nat) (x:α),x∈setAt xs off ys→x∈xs∨x∈ys
 |[],xs,off,x,h=> .inl h
 |y::ys,xs,off,x,h=>by
  rcases nZ ys _ _ _ h with h|h
  ·rcases List.mem_or_eq_of_mem_set h with h|rfl
   ·exact .inl h
   ·exact .inr (by simp)
  ·exact .inr (by simp [h])
def UY:∀ (fs:List Field),(fs.all fun f=>(P.info? f.type).isSome)=true→∃ places,fs.mapM (fun f=>(P.info? f.type).map fun i=>(f.offset,i.size))=some places∧∀ (k:Nat) (f:Field),fs[k]? = some f→places[k]? = some (f.offset,cA P f.type)
 |[],_=>⟨[],rfl,fun k f h=>by simp at h⟩
 |f::fs,h=>by
  simp only [List.all_cons,A9] at h;obtain⟨places,h1,c⟩:=UY fs h.2
  cases hi:P.info? f.type with
  |none=>rw [hi] at h;simp at h
  |some i=>
   refine⟨(f.offset,i.size)::places,by simp [List.mapM_cons,hi,h1],fun k d b=>?_⟩
   cases k with
   |zero=>simp at b;subst b;simp [cA,hi]
   |succ k=>simpa using c k d (by simpa using b)
def Ib (S:At u p g st a w){t:TypeId}{fs:Array Field}(C:P.underlying t=some (.struct fs)){places:List (Nat×Nat)}(hp:∀ (k:Nat) (f:Field),fs.toList[k]? = some f→places[k]? = some (f.offset,cA P f.type)) :∀ (ps:List (Nat×Operand)) (cs cs':List V) (us:Array Value),F2 (VA g) cs us.toList→(∀ c∈cs,c.bO p)→qW P t (R0 st) cs ps=some cs'→∃ b,Instr.fill (fun k=>places.toArray[k]?) us (ps.map fun x=>(x.1,a.eval x.2))=some b∧F2 (VA g) cs' b.toList∧∀ c∈cs',c.bO p
 |[],cs,cs',us,l,m,h=>by simp only [qW,B1] at h;subst h;exact⟨us,rfl,l,m⟩
 |(k,x)::ps,cs,cs',us,l,m,h=>by
  simp only [qW] at h;split at h
  ·(rename_i off ft z;replace h:=J6 h;obtain⟨d,h⟩:=h;simp only [A9] at d;obtain⟨⟨s,i⟩,j⟩:=d;have i:(R0 st x).cells.length=cA P ft:=B0 i;have j:off+cA P ft≤cs.length:=B3 j;obtain⟨I,f,e,A,rfl,rfl⟩:=AY z;rw [C] at e;cases e;obtain⟨D,L,J⟩:=rS s (S.ev x) (S.eZ x);have y:=D.length;have v:=l.length;simp only [E4] at y v;have n:=hp k f (by rw [D0];exact A);have e1:¬ ((a.eval x).cells.size≠cA P f.type∨f.offset+(a.eval x).cells.size>us.size):=by omega);have B:F2 (VA g) (setAt cs f.offset (R0 st x).cells) ((a.eval x).cells.zipIdx.foldl (fun cs (x:Value×Nat)=>cs.setIfInBounds (f.offset+x.2) x.1) us).toList:=by
    rw [PM];exact D.setAt _ l
   obtain⟨b,H,F,E⟩:=Ib S C hp ps _ cs' _ B (fun c d=>by
    rcases nZ _ _ _ _ d with d|d
    ·exact m c d
    ·exact J c d) h
   refine⟨b,?_,F,E⟩;simp only [List.map_cons,Instr.fill,List.getElem?_toArray,n];rw [if_neg (by simpa using e1)];simpa using H
  ·cases h
def Rx (S:At u p g st a w)(k:∀ x,p x→q x){t:TypeId}{ps:Array (Nat×Operand)}(D:o.op = .build t ps) (h:(match RT P t with
  |some z=>bif !(gO (.d z)&&PK P t) then none else (match qW P t (R0 st) (V.d z).cells ps.toList with
   |some cs=>K (aY3 cs) st
   |none=>none)
  |none=>none)=some r):Goal u p q g st a w P o K r:=by
 split at h
 ·rename_i z C;obtain⟨i,s,E,j,H⟩:=FY C;obtain⟨f,h⟩:=N9 h;rw [Bool.not_eq_false',A9] at f;have b:=f.2;unfold PK at b;split at b
  ·rename_i fs c;obtain⟨places,m,l⟩:=UY fs.toList b;split at h
   ·rename_i cs' n;obtain⟨J,_,I⟩:=rS (p:=p) f.1 (show VV g (.d z) s from H _) trivial;obtain⟨e,B,A,y⟩:=Ib S c l ps.toList _ cs' s.cells J I n;refine Goal.val S k h (v:= .agg e) ?_ ?_ (fH (rF y))
    ·have F:P.built t (ps.map fun (i,x)=>(i,a.eval x)).toList=some e:=by
      unfold Program.built;simp only [E,c,j,m,Array.toList_map];exact B
     simp only [execOp,D];simp [run_build w t _ e F]
    ·have:=vZ A;rw [Array.toArray_toList] at this;exact gX this
   ·cases h
  ·cases b
 ·cases h
def NI {x:D}{v:Value}(h:Ys x=true)(c:VD g.h x v):(∀ y∈v.cells.toList,y.oneCell'=true)∧v.cells.size=x.cells.length:=by
 have b:gO (.d x)=true:=by unfold gO Ys at *;cases x<;>first|(simpa [V.cells,D.cells,List.all_map] using h)
 obtain⟨f,e,_⟩:=rS (p:=fun _=>True) b (show VV g (.d x) v from c) trivial;refine⟨e,?_⟩;have:=f.length;simp only [E4] at this;rw [← this];cases x<;>simp [V.cells,D.cells]
def Hd {hh:Nat→Option Obj}{sz:Nat}:∀ {xs:List D} {us:List Value} {i:Nat} {x:D} {v:Value},sO hh sz xs us→i<xs.length→v.cells.size=sz→(∀ y∈v.cells.toList,y.oneCell'=true)→VD hh x v→sO hh sz (xs.set i x) (setAt us (i*sz) v.cells.toList)
 |[],us,i,x,v,_,s,_,_,_=>by simp at s
 |y::xs,us,0,x,v,h,_,j,h1,n=>by
  obtain⟨d,r,rfl,f,t,k4,m⟩:=h;refine⟨v,r,?_,j,h1,n,m⟩;have e:∀ (a b c:List Value) (pre:List Value),a.length=b.length→setAt (pre++(a++c)) pre.length b=pre++(b++c):=by
   intro a
   induction a with
   |nil=>intro b c pre hl;have:b=[]:=D1 hl.symm;subst this;rfl
   |cons a0 a ih=>
    intro b c pre hl
    cases b with
    |nil=>simp at hl
    |cons l b=>(simp only [setAt];have e1:(pre++(a0::a++c)).set pre.length l=(pre++[l])++(a++c):=by simp);rw [e1];have:=ih b c (pre++[l]) (by simpa using hl);simp only [G0,C5] at this;rw [this];simp
  have:=e d.cells.toList v.cells.toList r [] (by simp [f,j]);simpa using this
 |y::xs,us,i+1,x,v,h,s,j,h1,n=>by
  obtain⟨d,r,rfl,f,t,k4,m⟩:=h;refine⟨d,setAt r (i*sz) v.cells.toList,?_,f,t,k4,Hd m (by simpa using s) j h1 n⟩;have e:∀ (b pre c:List Value) (k:Nat),setAt (pre++c) (pre.length+k) b=pre++setAt c k b:=by
   intro b
   induction b with
   |nil=>intro pre c k;rfl
   |cons l b ih=>intro pre c k;simp only [setAt];rw [List.set_append_right _ _ (by omega),show pre.length+k-pre.length=k from by omega,Nat.add_assoc,ih]
  have:=e v.cells.toList d.cells.toList r (i*sz);rw [show d.cells.toList.length+i*sz=(i+1)*sz from by rw [Nat.add_mul];simp [f];omega] at this;exact this
def vK {hh:Nat→Option Obj}{sz:Nat}{x:D}{v:Value}(c:v.cells.size=sz)(h1:∀ y∈v.cells.toList,y.oneCell'=true)(b:VD hh x v):∀ n:Nat,sO hh sz (List.replicate n x) (List.replicate n v.cells.toList).flatten
 |0=>rfl
 |n+1=>⟨v,_,by simp [List.replicate_succ],c,h1,b,vK c h1 b n⟩
def BM (z:Array Value)(e:0<z.size)(n:Nat):(madeCells z (n*z.size)).toList=(List.replicate n z.toList).flatten:=by
 apply List.ext_getElem?;intro j;have hl:∀ n:Nat,(List.replicate n z.toList).flatten.length=n*z.size:=by intro n;simp
 have get:∀ (n j:Nat),j<n*z.size→(List.replicate n z.toList).flatten[j]? = z[j % z.size]?:=by
  intro n
  induction n with
  |zero=>intro j b;omega
  |succ n ih=>
   intro j b;simp only [List.replicate_succ,List.flatten_cons];rcases Nat.lt_or_ge j z.size with c|d
   ·rw [List.getElem?_append_left (by simpa using c),Nat.mod_eq_of_lt c,D0]
   ·rw [F5 (by simpa using d),E4,ih (j-z.size) (by rw [Nat.add_mul] at b;omega)];congr 1;rw [← Nat.mod_eq_sub_mod d]
 rcases Nat.lt_or_ge j (n*z.size) with b|b
 ·rw [get n j b];have hm:j % z.size<z.size:=Nat.mod_lt _ e;simp [madeCells,b,hm]
 ·rw [List.getElem?_eq_none (by simp [madeCells];exact b),List.getElem?_eq_none (by rw [hl];exact b)]
def RI {g':G}{x:V}{v:Value}{d:D}{fz os:List Nat}(e:VV g x v)(c:x.aU p)(b:aH8 h x=some (d,fz))(f:∀ o∈fz,o∈os) (j:U5 p g g') (i:aS u p g' (bJ h os) w):VD g'.h d v:=by
 match x,e,c,b with
 | .tup _,_,_,b=>simp [aH8,UN] at b
 | .d x,e,c,b=>exact mC (x:= .d x) e c b f j i
 | .ptr ..,e,c,b=>exact mC (x:= .ptr ..) e c b f j i
 | .el ..,e,c,b=>exact mC (x:= .el ..) e c b f j i
 | .rp ..,e,c,b=>exact mC (x:= .rp ..) e c b f j i
 | .row _,e,c,b=>exact mC (x:= .row _) e c b f j i
 | .mp _,e,c,b=>exact mC (x:= .mp _) e c b f j i
 | .bp ..,_,_,b=>simp [aH8,UN] at b
 | .sub ..,e,c,b=>exact mC (x:= .sub ..) e c b f j i
 | .agg _,e,c,b=>exact mC (x:= .agg _) e c b f j i
 | .fn _ [],e,c,b=>exact mC (x:= .fn _ []) e c b f j i
 | .fn _ (_::_),e,c,b=>exact mC (x:= .fn _ (_::_)) e c b f j i
def LR {h:Nat→Option Obj}{v:Value}:∀ {t:tH} {x:D},VD h x v→VD h (QR t x) v:=by
 intro t x c
 cases t with
 |Z sz=>
  cases x with
  |nils a b=>have c:v = .slice none 0 0:=c;subst c;exact⟨none,0,rfl,B9 _,by unfold maxLen;omega,.inl rfl⟩
  |_=>exact c
 |_=>exact c
def EC {h:Nat→Option Obj}:∀ {ts:List tH} {xs:List D} {c:List Value},yW h xs c→yW h (FF ts xs) c
 |[],xs,_,b=>by cases xs<;>exact b
 |_::_,[],_,b=>b
 |t::ts,x::xs,_,⟨v,r,e,h1,d⟩=>⟨v,r,e,LR h1,EC d⟩
def JZ {h:Nat→Option Obj}{v:Value}{t:Ty}{x:D}(b:VD h x v):VD h (FG t x) v:=by
 cases t with
 |leaf t=>exact LR b
 |agg ts=>
  cases x with
  |agg cs=>obtain⟨us,e,h1⟩:=b;exact⟨us,e,EC h1⟩
  |_=>exact b
def KN {g':G}{ty:Ty}{x:V}{v:Value}{d:D}{fz os:List Nat}(f:VV g x v)(e:x.aU p)(b:aP1 ty h x=some (d,fz))(c:∀ o∈fz,o∈os) (j:U5 p g g') (i:aS u p g' (bJ h os) w):VD g'.h d v:=by
 unfold aP1 at b;split at b
 ·rename_i k a h0;cases b;exact JZ (RI f e h0 c j i)
 ·cases b
def FZ {P:Program}{e:TypeId}{z:D}(h:VQ P e=some z):∃ i b,P.info? e=some i∧i.zero=some b∧∀ g:Nat→Option Obj,VD g z b:=by
 unfold VQ at h;split at h
 ·rename_i z0 c;cases h;obtain⟨i,b,h1,f,d⟩:=FY c;exact⟨i,b,h1,f,fun g=>JZ (d g)⟩
 ·cases h
def LW (S:At u p g st a w){g':G}(C:U5 p g g'){os:List Nat}(y:aS u p g' (bJ st.h os) w){ty:Ty}{sz:Nat}:∀ (ps:List (Nat×Operand)) (xs ys:List D) (b:List Nat) (us:Array Value),wF ty st.h (R0 st) sz xs ps=some (ys,b)→(∀ o∈b,o∈os)→sO g'.h sz xs us.toList→∃ c,Instr.fill (fun i=>some (i*sz,sz)) us (ps.map fun x=>(x.1,a.eval x.2))=some c∧sO g'.h sz ys c.toList∧ys.length=xs.length
 |[],xs,ys,b,us,h,_,l=>by simp only [wF,B1,C7] at h;obtain⟨rfl,rfl⟩:=h;exact⟨us,rfl,l,rfl⟩
 |(k,x)::ps,xs,ys,b,us,h,B,l=>by
  simp only [wF] at h;split at h
  ·(rename_i d fz L;replace h:=J6 h;obtain⟨A,h⟩:=h;simp only [A9] at A;obtain⟨⟨j,n⟩,f⟩:=A;have j:k<xs.length:=by have h1:Nat.ble (k+1) xs.length=true:=j;exact B3 h1);have f:d.cells.length=sz:=B0 f;split at h
   ·(rename_i E b' J;simp only [B1,C7] at h;obtain⟨rfl,rfl⟩:=h;have v:=KN (S.ev x) (S.eZ x) L (fun o s=>B o (by simp [s])) C y;obtain⟨N,M⟩:=NI n v;have m:(a.eval x).cells.size=sz:=by rw [M,f]);have e:=lD l;simp only [E4] at e;have z:k*sz+sz≤us.size:=by
     rw [e,← Nat.succ_mul];exact Nat.mul_le_mul_right _ j
    (have t:sO g'.h sz (xs.set k d) ((a.eval x).cells.zipIdx.foldl (fun cs (x:Value×Nat)=>cs.setIfInBounds (k*sz+x.2) x.1) us).toList:=by rw [PM];exact Hd l j m N v);obtain⟨c,I,H,F⟩:=LW S C y ps _ _ _ _ J (fun o s=>B o (by simp [s])) t;refine⟨c,?_,H,by rw [F];simp⟩;have e1:¬ ((a.eval x).cells.size≠sz∨k*sz+(a.eval x).cells.size>us.size):=by omega
    simp only [List.map_cons,Instr.fill];rw [if_neg (by simpa using e1)];exact I
   ·cases h
  ·cases h
def SN (S:At u p g st a w)(N:∀ x,p x→q x){nid:Nat}(B:oD p q nid){t:TypeId}{n:Nat}{ps:Array (Nat×Operand)}(T:o.op = .buildSlice t n ps) (h:(match oI P t with
  |some e=>(match VQ P e with
   |some z=>bif Nat.blt 0 (cA P e)&&IV P e&&Nat.ble (n*cA P e) 16777216&&Ys z&&Nat.beq z.cells.length (cA P e) then
     (match wF (zF P e) st.h (R0 st) (cA P e) (List.replicate n z) ps.toList with
     |some (xs,fz)=>K (.row nid) (newRow (st.freeze fz) nid e (cA P e) xs)
     |none=>none) else none
   |none=>none)
  |none=>none)=some r):Goal u p q g st a w P o K r:=by
 split at h
 ·rename_i e he;split at h
  ·(rename_i z hz;obtain⟨hc,h⟩:=J6 h;simp only [A9] at hc;obtain⟨⟨⟨⟨c,htok⟩,A⟩,Q⟩,s⟩:=hc;have c:0<cA P e:=by have h1:Nat.ble 1 (cA P e)=true:=c;exact B3 h1);have A:n*cA P e≤16777216:=B3 A;have s:z.cells.length=cA P e:=B0 s;obtain⟨i,f,X,L,hV⟩:=FZ hz;have D:cA P e=i.size:=by simp [cA,X]
   split at h
   ·(rename_i xs fz E;obtain⟨g1,a1,b1,c1,s1⟩:=S.hp.freeze fz;obtain⟨z1,z2⟩:=NI (g:=g) Q (hV g.h);have m:f.cells.size=cA P e:=by rw [z2,s]);have y:(madeCells f.cells (n*cA P e)).toList=(List.replicate n f.cells.toList).flatten:=by
     have:=BM f.cells (by rw [m];exact c) n
     rwa [m] at this
    (obtain⟨C,k1,k2,k3⟩:=LW S a1 s1 ps.toList _ _ _ (madeCells f.cells (n*cA P e)) E (fun o T=>T) (by rw [y];exact vK m z1 (hV _) n);have l:=lD k2;simp only [E4,k3,List.length_replicate] at l;have hn:n≤maxLen:=by have:n≤n*cA P e:=Nat.le_mul_of_pos_right n c;simp only [maxLen];omega);(have M:xs.length=n:=by rw [k3];simp);have F:=World.ownsRow_lit (e:=e) (size:=cA P e) w C n (C4 _) hn l;obtain⟨g',m1,m2,m3,m4,m5⟩:=kB (h':=(newRow (st.freeze fz) nid e (cA P e) xs).h) s1 N B.zero.1 B.zero.2 (World.grownBy_alloc w _ none) (by rw [M];exact F) c k2 (fun b hb=>by cases hb) (fun b hb=>by simp only [Value.ownBlock,B1] at hb;exact .inr (by omega)) (fun o' x j W=>by rw [newRow,bT,if_neg W] at j;exact⟨j,fun _ _ e=>by cases e⟩) (by rw [newRow,bT];simp);have ha:U5 p g g':=⟨fun b x e=>m1.h b x (a1.h b x e),fun x j=>(m1.blk x j).trans (a1.blk x j),fun x j=>(m1.hdr x j).trans (a1.hdr x j)⟩;refine Goal.res h (v:= .slice (some ⟨w.heap.size,0,none⟩) n n) ?_ m5 ha (tK ha) ⟨m4.symm,rfl⟩ B.zero.2 rfl rfl;have ht:=tX he;rw [D] at A k1;have d:Instr.fill (fun J=>some (J*i.size,i.size)) (madeCells f.cells (n*i.size)) (ps.map fun (k,x)=>(k,a.eval x)).toList=some C:=by rw [Array.toList_map];exact k1
    simp only [execOp,T,Instr.buildSlice,Sem.run_bind,run_underlying ht,Result.andThen_ok,lB X];by_cases hn0:n*i.size=0
    ·have H:n=0:=by
      rcases Nat.eq_zero_or_pos n with h0|h0
      ·exact h0
      ·(have O:0<i.size:=by rw [← D];exact c);have:=Nat.mul_pos h0 O;omega
     (have e1:madeCells f.cells (n*i.size)=#[]:=by rw [hn0];simp [madeCells]);rw [e1] at d;subst H;rw [Array.toList_map] at d;have e0:(Array.range 0).map (fun _:Nat=>(default:Value))=#[]:=by simp
     simp [e0,d,Go.newRow]
    ·(have I:¬ (n*i.size>2 ^ 24):=by omega);simp [I,hn0,zeroValue,typeInfo,X,L,Go.newRow];have e2:(Array.range (n*i.size)).map (fun x=>f.cells[x % f.cells.size]!)=madeCells f.cells (n*i.size):=rfl;simp [madeCells] at d;simp [d]
   ·cases h
  ·cases h
 ·cases h
end
end Go.AE
