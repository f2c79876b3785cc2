/- B. No condition. -/
import Derived.Test.YtnpeieeomokomaaGreatZA
noncomputable section
namespace Go.Sim
structure TI where
 id:Nat
 desc:TypeDesc
 size:Nat
 bytes:Nat
 zero:Option V
 cmp:Bool
 held:Bool
 guard:Bool
 meth:List Method
structure FI where
 n:Nat
 results:List ResultVar
 body:Code
structure Ctx where
 ty:T TI
 fn:T FI
 noesc:Option Nat
 mnz:Option (Nat×Nat)
 lies:Nat->Nat->Nat->Bool
inductive AD where
 | coll (id:Nat)
 | fn (f:Nat) (captured args:List V)
def zJV:Value->Option V
 | .bool b=>some (.bool b)
 | .int k n=>some (.int k n)
 | .string s=>some (.str s.data.toList)
 | .pointer none=>some .nilptr
 | .slice none 0 0=>some .nilslice
 | .map none=>some .nilmap
 | .func (.func f) ⟨[]⟩ ⟨[]⟩=>some (.func (.func f) [] [])
 | .nilFunc=>some .nilFunc
 | .nilIface=>some .nilIface
 | _=>none
def zJW:List Value->Option (List V)
 | []=>some []
 | v::l =>
  match zJV v with
  | none=>none
  | some x =>
   match zJW l with
   | none=>none
   | some y=>some (x::y)
def ofV:Value->Option V
 | .agg ⟨l⟩=>match zJW l with|some x=>some (.agg x)|none=>none
 | .iface t v=>match zJV v with|some x=>some (.iface t x)|none=>none
 | v=>zJV v
def yQ (tm:Tm):Operand->Option V
 | .tmp t=>some (yB tm t)
 | .const v=>ofV v
 | .func f=>some (.func (.func f) [] [])
 | .global _=>none
def qe (e:Operand->Option V):List Operand->Option (List V)
 | []=>some []
 | x::l =>
  match e x with
  | none=>none
  | some v =>
   match qe e l with
   | none=>none
   | some r=>some (v::r)
def xi:TypeDesc->Bool
 | .struct _=>true
 | .array _ _=>true
 | _=>false
def zU:List V->Bool
 | []=>true
 | v::l=>cond v.one (zU l) false
def V.cells:V->List V
 | .agg l=>l
 | v=>[v]
def qP:List UInt8->Nat->Nat
 | [],n=>n
 | _::l,n=>qP l (n+1)
def wL:List V->Nat->Bool
 | [],0=>true
 | _::l,n+1=>wL l n
 | _,_=>false
def zO (c:Ctx) (t:TypeId) (h:H):V->Option V
 | .ptr b o =>
  match h.get b with
  | some (.cells l _ _ _) =>
   match c.ty.get t with
   | some ti =>
    cond (xi ti.desc) (match l.range o ti.size with|some x=>some (.agg x)|none=>none) (l.get? o)
   | none=>none
  | _=>none
 | _=>none
def yA (c : Ctx) (t : TypeId) (h : H) (a v : V) : Option H :=
  match a with
  | .ptr b o =>
    match h.get b with
    | some (.cells l esz true op) =>
      match c.ty.get t with
      | some ti =>
        cond (wL v.cells ti.size)
          (cond (cond (Nat.ble esz.fz o) (zU v.cells) false)
            (match l.put o v.cells with
            | some l' => some (h.upd b (some (.cells l' esz true op)))
            | none => none) none) none
      | none => none
    | _ => none
  | _ => none
def ky (h:H) (r:Option Cs) (esz:Rk) (op:Bool):Option (Nat×H) :=
 cond (Nat.blt h.next T.top) (match r with|some cs=>some (h.next,h.new (.cells cs esz true op))|none=>none) none
def qi (h:H) (l:List V) (esz:Rk) (op:Bool):Option (Nat×H):=cond (zU l) (ky h (Cs.ofL l) esz op) none
def zN (k:IntKind) (n:Int):Int :=
 match k with
 | .i64=>match n with
  | .ofNat m=>cond (Nat.blt m 9223372036854775808) (.ofNat m) (k.wrap (.ofNat m))
  | .negSucc m=>cond (Nat.blt m 9223372036854775808) (.negSucc m) (k.wrap (.negSucc m))
 | .u64=>match n with
  | .ofNat m=>cond (Nat.blt m 18446744073709551616) (.ofNat m) (.ofNat (m % 18446744073709551616))
  | .negSucc m=>k.wrap (.negSucc m)
 | .u8=>match n with
  | .ofNat m=>.ofNat (m % 256)
  | .negSucc m=>k.wrap (.negSucc m)
 | k=>k.wrap n
def Xz:Int->Int->Bool
 | .ofNat a,.ofNat b=>Nat.blt a b
 | .ofNat _,.negSucc _=>false
 | .negSucc _,.ofNat _=>true
 | .negSucc a,.negSucc b=>Nat.blt b a
def eqF:Int->Int->Bool
 | .ofNat a,.ofNat b=>Nat.beq a b
 | .negSucc a,.negSucc b=>Nat.beq a b
 | _,_=>false
def zAU:Int->Int->Int
 | .ofNat a,.ofNat b=>.ofNat (a+b)
 | a,b=>a+b
def zO3:Int->Int->Int
 | .ofNat a,.ofNat b=>cond (Nat.ble b a) (.ofNat (a-b)) (.negSucc (b-a-1))
 | a,b=>a-b
def zQC:Int->Int->Int
 | .ofNat a,.ofNat b=>.ofNat (a*b)
 | a,b=>a*b
def zCi (x:Int) (n:Nat):Int :=
 match x with
 | .ofNat a=>.ofNat (Nat.shiftRight a n)
 | x=>x.fdiv (2^n)
def zJn (x:Int) (n:Nat):Int :=
 match x with
 | .ofNat a=>.ofNat (Nat.shiftLeft a n)
 | x=>x*2^n
def zLA:Int->Int->Int
 | .ofNat a,.ofNat b=>.ofNat (a/b)
 | a,b=>a.tdiv b
def z0K:Int->Int->Int
 | .ofNat a,.ofNat b=>.ofNat (a % b)
 | a,b=>a.tmod b
def xE:IntKind->IntKind->Bool
 | .i8,.i8 | .i16,.i16 | .i32,.i32 | .i64,.i64 | .u8,.u8 | .u16,.u16 | .u32,.u32 | .u64,.u64=>true
 | _,_=>false
def Ke (op:BinOp) (k:IntKind) (x y:Int):Option V :=
 let a:=BitVec.ofInt k.bits x
 let b:=BitVec.ofInt k.bits y
 match op with
 | .and=>some (.int k (k.wrap (a &&& b).toNat))
 | .or=>some (.int k (k.wrap (a ||| b).toNat))
 | .xor=>some (.int k (k.wrap (a ^^^ b).toNat))
 | .andNot=>some (.int k (k.wrap (a &&& ~~~b).toNat))
 | _=>none
def zj (op:BinOp) (k:IntKind) (x y:Int):Option V :=
 match op with
 | .add=>some (.int k (zN k (zAU x y)))
 | .sub=>some (.int k (zN k (zO3 x y)))
 | .mul=>some (.int k (zN k (zQC x y)))
 | .quo=>cond (eqF y 0) none (some (.int k (zN k (zLA x y))))
 | .rem=>cond (eqF y 0) none (some (.int k (z0K x y)))
 | .eql=>some (.bool (eqF x y))
 | .neq=>some (.bool (!eqF x y))
 | .lss=>some (.bool (Xz x y))
 | .leq=>some (.bool (!Xz y x))
 | .gtr=>some (.bool (Xz y x))
 | .geq=>some (.bool (!Xz x y))
 | .shl=>cond (Xz y 0) none (some (.int k (zN k (zJn x (cond (Nat.ble y.toNat k.bits) y.toNat k.bits)))))
 | .shr=>cond (Xz y 0) none (some (.int k (zCi x (cond (Nat.ble y.toNat k.bits) y.toNat k.bits))))
 | op=>Ke op k x y
def xq:BinOp->Bool
 | .shl | .shr=>true
 | _=>false
def eqB:List UInt8->List UInt8->Bool
 | [],[]=>true
 | a::x,b::y=>cond (Nat.beq a.toNat b.toNat) (eqB x y) false
 | _,_=>false
def zGy (op:BinOp) (x y:List UInt8):Option V :=
 match op with
 | .add=>cond (Nat.ble (qP x (qP y 0)) 4611686018427387904) (some (.str (x++y))) none
 | .eql=>some (.bool (eqB x y))
 | .neq=>some (.bool (!eqB x y))
 | .lss=>some (.bool (Op.bytesLess x y))
 | .geq=>some (.bool (!Op.bytesLess x y))
 | _=>none
def eq1 (d:TypeDesc) (x y:V):Option Bool :=
 match d,x,y with
 | .bool,.bool a,.bool b=>some (a == b)
 | .int _,.int j a,.int k b=>cond (xE j k) (some (eqF a b)) none
 | .string,.str a,.str b=>some (eqB a b)
 | .pointer _,.nilptr,.nilptr=>some true
 | .pointer _,.nilptr,.ptr _ _=>some false
 | .pointer _,.ptr _ _,.nilptr=>some false
 | .interface _,.nilIface,.nilIface=>some true
 | .interface _,.nilIface,.iface _ _=>some false
 | .interface _,.iface _ _,.nilIface=>some false
 | .slice _,.nilslice,.nilslice=>some true
 | .slice _,.nilslice,.slice _ _ _ _=>some false
 | .slice _,.slice _ _ _ _,.nilslice=>some false
 | .map _ _,.nilmap,.nilmap=>some true
 | .map _ _,.nilmap,.map _=>some false
 | .map _ _,.map _,.nilmap=>some false
 | .func _ _ _,.nilFunc,.nilFunc=>some true
 | .func _ _ _,.nilFunc,.func _ _ _=>some false
 | .func _ _ _,.nilFunc,.yield _=>some false
 | .func _ _ _,.func _ _ _,.nilFunc=>some false
 | .func _ _ _,.yield _,.nilFunc=>some false
 | _,_,_=>none
def apart (ti:TI) (l:List V) (off:Nat):Option V :=
 match Zj off l with
 | none=>none
 | some r=>cond (xi ti.desc) (match kW ti.size r with|some x=>some (.agg x)|none=>none) (match r with|v::_=>some v | []=>none)
def zK1 (c : Ctx) (rec_ : TypeId -> V -> V -> Option Bool) : List Field -> List V -> List V -> Option Bool
  | [], _, _ => some true
  | f::fs, xs, ys =>
    cond (f.name == "_") none
      (match c.ty.get f.type with
      | none => none
      | some ti =>
        match apart ti xs f.offset, apart ti ys f.offset with
        | some x, some y =>
          match rec_ f.type x y with
          | some true => zK1 c rec_ fs xs ys
          | r => r
        | _, _ => none)
def zK0 (ti:TI) (rec_:V->V->Option Bool):Nat->Nat->List V->List V->Option Bool
 | 0,_,_,_=>some true
 | k+1,i,xs,ys =>
  match apart ti xs (i*ti.size),apart ti ys (i*ti.size)with
  | some x,some y =>
   match rec_ x y with
   | some true=>zK0 ti rec_ k (i+1) xs ys
   | r=>r
  | _,_=>none
def aeq (c:Ctx):Nat->TypeId->V->V->Option Bool
 | 0,_,_,_=>none
 | d+1,t,x,y =>
  match c.ty.get t with
  | none=>none
  | some ti =>
   match ti.desc,x,y with
   | .struct fs,.agg xs,.agg ys=>cond ti.held none (zK1 c (aeq c d) fs.toList xs ys)
   | .array n e,.agg xs,.agg ys=>match c.ty.get e with|none=>none|some te=>zK0 te (aeq c d e) n 0 xs ys
   | .interface _,.iface tx vx,.iface ty vy =>
    cond (Nat.beq tx ty) (match c.ty.get tx with|none=>none|some ti=>cond ti.cmp (aeq c d tx vx vy) none) (some false)
   | .pointer te,.ptr b o,.ptr b' o'=>match c.ty.get te with|none=>none|some te=>cond (Nat.beq b b' && Nat.blt 0 te.size) (some (Nat.beq o o')) none
   | d,x,y=>eq1 d x y
def Yu:Operand->Bool
 | .const _=>true
 | _=>false
def Xw (c:Ctx) (t:TypeId) (x y:Operand) (a b:V):Bool :=
 match a,b with
 | .nilIface,.nilIface=>Yu x || Yu y
 | .agg _,.agg _=>match c.ty.get t with|some ti=>!ti.guard|none=>false
 | _,_=>true
def yn (c:Ctx) (op:BinOp) (t:TypeId) (x y:Operand) (a b:V):Option V :=
 match a,b with
 | .int k m,.int k' n=>cond (xq op) (zj op k m n) (cond (xE k k') (zj op k m n) none)
 | .str m,.str n=>zGy op m n
 | a,b =>
  match op with
  | .eql=>cond (Xw c t x y a b) (match aeq c 30 t a b with|some r=>some (.bool r)|none=>none) none
  | .neq=>cond (Xw c t x y a b) (match aeq c 30 t a b with|some r=>some (.bool (!r))|none=>none) none
  | _=>none
def aun:UnOp->V->Option V
 | .neg,.int k n=>some (.int k (zN k (zO3 0 n)))
 | .xor,.int k n=>Ke .xor k (if k.signed then -1 else k.max) n
 | .not,.bool b=>some (.bool (!b))
 | _,_=>none
def xQ:List V->Option (List UInt8)
 | []=>some []
 | .int .u8 n::l=>match xQ l with|some r=>some (UInt8.ofNat n.toNat::r)|none=>none
 | _::_=>none
def yG:List UInt8->List V
 | []=>[]
 | b::l=>.int .u8 (.ofNat b.toNat)::yG l
def yp (z:List V):Nat->List V
 | 0=>[]
 | n+1=>z++yp z n
def xB:Int->Option Nat
 | .ofNat n=>some n
 | .negSucc _=>none
def yt (c:Ctx) (s d:TypeId) (h:H) (v:V):Option (V×H) :=
 match c.ty.get s,c.ty.get d with
 | some ts,some td =>
  match ts.desc,td.desc,v with
  | .int _,.int k,.int _ n=>some (.int k (zN k n),h)
  | .string,.string,.str l=>some (.str l,h)
  | .string,.slice e,.str l =>
   match c.ty.get e with
   | some te =>
    match te.desc with
    | .int .u8=>match qi h (yG l) ⟨1,0,0⟩ true with|some (b,h')=>some (.slice b 0 (qP l 0) (.skip 0),h')|none=>none
    | _=>none
   | none=>none
  | .slice e,.string,.nilslice =>
   match c.ty.get e with
   | some te=>match te.desc with | .int .u8=>some (.str [],h)|_=>none
   | none=>none
  | .pointer t,.unsafePointer,.ptr b o =>
   match c.ty.get t,h.get b with
   | some tt,some (.cells l _ _ _)=>cond (Nat.blt 0 tt.size) (match l.get? o with|some _=>some (.ptr b o,h)|none=>none) none
   | _,_=>none
  | .unsafePointer,.pointer u,.ptr b o =>
   match c.ty.get u,h.get b with
   | some _,some (.cells l esz true false) =>
    match esz.ty with
    | e+1=>match c.ty.get e with
     | some te=>cond (Nat.blt 0 te.size && Nat.beq l.len te.size && c.lies e u o) (some (.ptr b o,h)) none
     | none=>none
    | 0=>none
   | _,_=>none
  | .slice e,.string,.slice b o len _ =>
   match c.ty.get e with
   | some te =>
    match te.desc with
    | .int .u8 =>
     match h.get b with
     | some (.cells l _ _ _) =>
      match l.range o len with
      | some x=>(match xQ x with|some y=>some (.str y,h)|none=>none)
      | none=>none
     | _=>none
    | _=>none
   | none=>none
  | .slice _,.slice e,.slice b o len cp =>
   cond (Nat.beq s d) (match c.ty.get e with
   | some te =>
    match te.desc with
    | .int .u8 =>
     match h.get b with
     | some (.cells l esz true op)=>cond (Nat.beq esz.fz 0 && Nat.blt 0 esz.ty) (some (.slice b o len cp,h.upd b (some (.cells l ⟨esz.n,0,0⟩ true op)))) none
     | _=>none
    | _=>none
   | none=>none) none
  | _,_,_=>none
 | _,_=>none
def bnd:Option V->Nat->Nat->Option Nat
 | none,d,_=>some d
 | some (.int _ n),_,top=>match xB n with|some m=>cond (Nat.ble m top) (some m) none|none=>none
 | some _,_,_=>none
def zO1 (l:List UInt8) (lo hi:Nat):List UInt8:=(l.drop lo).take (hi-lo)
def zHY (b o k:Nat) (mx hi lo:Option V):Option V :=
 match mx,hi,lo with
 | none,some (.int _ (.ofNat 0)),none=>some (.slice b o 0 (.skip k))
 | _,_,_=>none
def yP (c : Ctx) (t : TypeId) (h : H) (x : V) (lo hi mx : Option V) : Option V :=
  match c.ty.get t with
  | none => none
  | some ti =>
    match ti.desc, x with
    | .string, .str l =>
      match mx with
      | some _ => none
      | none =>
        let n := qP l 0
        match bnd hi n n with
        | none => none
        | some hh => match bnd lo 0 hh with|none => none|some ll => some (.str (zO1 l ll hh))
    | .array n e, .ptr b o =>
      match c.ty.get e with
      | none => none
      | some te =>
        match bnd mx n n with
        | none => none
        | some m =>
          match bnd hi n m with
          | none => none
          | some hh =>
            cond (mx.isSome && hi.isNone) none
            (match bnd lo 0 hh with
            | none => none
            | some ll => some (.slice b (cond (Nat.beq m ll) o (o + ll * te.size)) (hh - ll) (.exact (m - ll))))
    | .slice e, .nilslice =>
      match c.ty.get e with
      | none => none
      | some _ =>
        match bnd mx 0 0 with
        | none => none
        | some m =>
          match bnd hi 0 m with
          | none => none
          | some hh => cond (mx.isSome && hi.isNone) none (match bnd lo 0 hh with|none => none|some _ => some .nilslice)
    | .slice e, .slice b o len (.exact cp) =>
      match c.ty.get e with
      | none => none
      | some te =>
        match bnd mx cp cp with
        | none => none
        | some m =>
          match bnd hi len m with
          | none => none
          | some hh =>
            cond (mx.isSome && hi.isNone) none
            (match bnd lo 0 hh with
            | none => none
            | some ll => some (.slice b (cond (Nat.beq m ll) o (o + ll * te.size)) (hh - ll) (.exact (m - ll))))
    | .slice e, .slice b o len (.skip k) =>
      match c.ty.get e, h.get b with
      | some te, some (.cells l esz true true) =>
        cond (Nat.beq esz.n te.size && Nat.blt 0 esz.n && Nat.beq o (k * esz.n))
        (cond (Nat.ble (o + len * esz.n) l.len)
          (match mx with
          | some _ =>
            cond hi.isNone none
            (match bnd mx 0 len with
            | none => none
            | some m =>
              match bnd hi len m with
              | none => none
              | some hh =>
                match bnd lo 0 hh with
                | none => none
                | some ll => some (.slice b (cond (Nat.beq m ll) o (o + ll * te.size)) (hh - ll) (.exact (m - ll))))
          | none =>
            match bnd hi len len with
            | none => none
            | some hh =>
              match bnd lo 0 hh with
              | none => none
              | some ll =>
                cond (Nat.beq ll 0) (some (.slice b o hh (.skip k)))
                (cond (Nat.blt ll len) (some (.slice b (o + ll * te.size) (hh - ll) (.skip (k + ll)))) none)) (zHY b o k mx hi lo)) none
      | _, _ => none
    | _, _ => none
def zV (c:Ctx) (t:TypeId) (x ix:V):Option V :=
 match ix with
 | .int _ n =>
  match xB n,c.ty.get t with
  | some i,some ti =>
   match ti.desc,x with
   | .array len e,.ptr b o=>cond (Nat.blt i len) (match c.ty.get e with|some te=>some (.ptr b (o+i*te.size))|none=>none) none
   | .slice e,.slice b o len _=>cond (Nat.blt i len) (match c.ty.get e with|some te=>some (.ptr b (o+i*te.size))|none=>none) none
   | _,_=>none
  | _,_=>none
 | _=>none
def YD:List UInt8->Nat->Option UInt8
 | [],_=>none
 | b::_,0=>some b
 | _::l,n+1=>YD l n
def jw (c:Ctx) (t:TypeId) (x ix:V):Option V :=
 match ix with
 | .int _ n =>
  match xB n,c.ty.get t with
  | some i,some ti =>
   match ti.desc,x with
   | .array len e,.agg cs=>cond (Nat.blt i len) (match c.ty.get e with|some te=>apart te cs (i*te.size)|none=>none) none
   | .string,.str l=>match YD l i with|some b=>some (.int .u8 (.ofNat b.toNat))|none=>none
   | _,_=>none
  | _,_=>none
 | _=>none
def zK2 (c:Ctx) (t:TypeId) (x:V) (f:Nat):Option V :=
 match c.ty.get t with
 | some ti =>
  match ti.desc,x with
  | .struct fs,.agg cs =>
   match fs[f]? with
   | some fd=>match c.ty.get fd.type with|some tf=>apart tf cs fd.offset|none=>none
   | none=>none
  | _,_=>none
 | none=>none
def Zf (c:Ctx) (place:Nat->Option (Nat×Nat)):List V->List (Nat×V)->Option (List V)
 | cells,[]=>some cells
 | cells,(i,v)::rest =>
  match place i with
  | none=>none
  | some (off,size) =>
   cond (wL v.cells size) (match jh off v.cells cells with|some r=>Zf c place r rest|none=>none) none
def qt (c:Ctx) (fs:Array Field) (i:Nat):Option (Nat×Nat) :=
 match fs[i]? with
 | some f=>match c.ty.get f.type with|some ti=>some (f.offset,ti.size)|none=>none
 | none=>none
def zEq (c:Ctx):List Field->Bool
 | []=>true
 | f::l=>match c.ty.get f.type with|some _=>zEq c l|none=>false
def wc (c:Ctx) (t:TypeId) (parts:List (Nat×V)):Option V :=
 match c.ty.get t with
 | some ti =>
  match ti.zero with
  | some z =>
   match ti.desc with
   | .struct fs=>cond (zEq c fs.toList) (match Zf c (qt c fs) z.cells parts with|some r=>some (.agg r)|none=>none) none
   | .array _ e =>
    match c.ty.get e with
    | some te=>match Zf c (λi=>some (i*te.size,te.size)) z.cells parts with|some r=>some (.agg r)|none=>none
    | none=>none
   | _=>none
  | none=>none
 | none=>none
def zCs (z:List V) (k:Nat):Option Cs :=
 match z with
 | [v]=>Cs.rep v k
 | _=>Cs.ofL (yp z k)
def zS (c:Ctx) (t:TypeId) (len:Nat) (parts:List (Nat×V)) (h:H):Option (V×H) :=
 match c.ty.get t with
 | some ti =>
  match ti.desc with
  | .slice e =>
   match c.ty.get e with
   | some te =>
    match te.zero with
    | some z =>
     cond (Nat.ble (len*te.size) 1048576)
     (cond (wL z.cells te.size)
      (match Zf c (λi=>some (i*te.size,te.size)) (yp z.cells len) parts with
      | some r=>match qi h r ⟨0,e+1,0⟩ false with|some (b,h')=>some (.slice b 0 len (.exact len),h')|none=>none
      | none=>none) none) none
    | none=>none
   | none=>none
  | _=>none
 | none=>none
def we (c:Ctx) (t:TypeId) (len cp:V) (h:H):Option (V×H) :=
 match len,cp with
 | .int _ ln,.int _ cn =>
  match xB ln,xB cn with
  | some l,some k =>
   match c.ty.get t with
   | some ti =>
    match ti.desc with
    | .slice e =>
     match c.ty.get e with
     | some te =>
      match te.zero with
      | some z =>
       cond (Nat.ble l k && Nat.ble k 4294967296 && Nat.ble (te.bytes*k) 1099511627776 && wL z.cells te.size)
        (match ky h (zCs z.cells k) ⟨0,0,0⟩ false with|some (b,h')=>some (.slice b 0 l (.exact k),h')|none=>none) none
      | none=>none
     | none=>none
    | _=>none
   | none=>none
  | _,_=>none
 | _,_=>none
def yZ (esz:Nat) (h:H):V->Option (Nat×List V)
 | .nilslice=>some (0,[])
 | .str l=>cond (Nat.beq esz 1) (some (qP l 0,yG l)) none
 | .slice b o len _ =>
  match h.get b with
  | some (.cells l _ _ _) =>
   match l.range o (len*esz)with|some x=>some (len,x)|none=>none
  | _=>none
 | _=>none
def kU (h:H) (b:Nat):H:=h.upd b none
def jS (k:Rk) (te:TI) (h:H) (r:Option Cs) (need:Nat):Option (V×H) :=
 cond (Nat.ble (need*te.bytes) 1099511627776)
  (match ky h r k true with|some (b,h')=>some (.slice b 0 need (.skip 0),h')|none=>none) none
def Zg (h:H) (b o len:Nat) (cp:Cap) (esz need:Nat) (l:Cs) (esz':Rk) (op:Bool) (new:List V):Option (V×H) :=
 match l.put (o+len*esz) new with
 | some l'=>cond (Nat.ble esz'.fz (o+len*esz)) (some (.slice b o need cp,h.upd b (some (.cells l' esz' true op)))) none
 | none=>none
def K6 (te:TI) (h:H) (b o len k need:Nat) (l:Cs) (esz':Rk) (new:List V):Option (V×H) :=
 cond (Nat.beq k 0 && Nat.beq l.len (o+len*te.size) && Nat.ble esz'.fz (o+len*te.size) && (Nat.beq esz'.ty 0 || Nat.beq esz'.ty (te.id+1))) (jS esz' te (kU h b) (l.app new) need) none
def Yb (te:TI) (h:H) (b o len k n:Nat) (l:Cs) (esz':Rk) (wr op:Bool) (new:List V):Option (V×H) :=
 cond (wr && op && Nat.beq te.size esz'.n && Nat.beq o (k*te.size) && zU new && Nat.ble (o+len*te.size) l.len)
  (cond (Nat.beq n 0) (some (.slice b o len (.skip k),h))
   (match Zg h b o len (.skip k) te.size (len+n) l esz' op new with
   | some r=>some r
   | none=>K6 te h b o len k (len+n) l esz' new)) none
def wv (te:TI):Rk:=⟨te.size,te.id+1,0⟩
def zBb (l:Cs) (o m:Nat) (new:List V):Option Cs :=
 match l.range o m with
 | some old=>cond (zU new) (Cs.ofL (old++new)) none
 | none=>none
def qj (te:TI) (h:H) (b o len k n:Nat) (l:Cs) (esz':Rk) (wr op:Bool) (new:List V):Option (V×H) :=
 cond (Nat.ble (len+n) k)
  (cond (wr && zU new) (Zg h b o len (.exact k) te.size (len+n) l esz' op new) none)
  (jS (wv te) te h (zBb l o (len*te.size) new) (len+n))
def appTo (te:TI) (h:H) (n:Nat) (new:List V):V->Option (V×H)
 | .nilslice=>cond (Nat.beq n 0) (some (.nilslice,h)) (jS (wv te) te h (cond (zU new) (Cs.ofL new) none) n)
 | .slice b o len cp =>
  match h.get b with
  | some (.cells l esz' wr op) =>
   match cp with
   | .exact k=>qj te h b o len k n l esz' wr op new
   | .skip k=>Yb te h b o len k n l esz' wr op new
  | _=>none
 | _=>none
def kc (te:TI):Bool :=
 Nat.blt 0 te.size && Nat.blt 0 te.bytes && (match te.zero with|some z=>wL z.cells te.size|none=>false)
def zo (c:Ctx) (t:TypeId) (h:H) (s x:V):Option (V×H) :=
 match c.ty.get t with
 | some ti =>
  match ti.desc with
  | .slice e =>
   match c.ty.get e with
   | some te=>cond (kc te) (match yZ te.size h x with|none=>none|some (n,new)=>appTo te h n new s) none
   | none=>none
  | _=>none
 | none=>none
def zKX (c:Ctx) (t:TypeId) (h:H) (s x:V):Option (V×H) :=
 match c.ty.get t with
 | some ti =>
  match ti.desc with
  | .slice e =>
   match c.ty.get e with
   | some te=>cond (kc te && Nat.beq te.size 1)
    (match x,te.zero with
    | .int .i64 (.ofNat k),some z=>cond (Nat.ble (k*te.bytes) 1099511627776)
     (match z.cells with
     | [u]=>appTo te h k (List.replicate k u) s
     | _=>none) none
    | _,_=>none) none
   | none=>none
  | _=>none
 | none=>none
def KD (c:Ctx) (tx t:TypeId) (h:H) (s x:V):Option (V×H) :=
 match c.ty.get tx with
 | some ti =>
  match ti.desc with
  | .string=>zo c t h s x
  | .slice _=>zo c t h s x
  | .int _=>zKX c t h s x
  | _=>none
 | none=>none
def zHS (c : Ctx) (t : TypeId) (h : H) (d x : V) : Option (V × H) :=
  match c.ty.get t with
  | some ti =>
    match ti.desc with
    | .slice e =>
      match c.ty.get e with
      | some te =>
        match yZ te.size h x with
        | none => none
        | some (n, new) =>
          match d with
          | .nilslice => some (.int .i64 0, h)
          | .slice b o len _ =>
            match h.get b with
            | some (.cells l esz true op) =>
              let m := cond (Nat.ble n len) n len
              match kW (m * te.size) new with
              | some cs =>
                cond (cond (Nat.ble esz.fz o) (zU cs) false) (match l.put o cs with
                | some l' => some (.int .i64 (.ofNat m), h.upd b (some (.cells l' esz true op)))
                | none => none) none
              | none => none
            | _ => none
          | _ => none
      | none => none
    | _ => none
  | none => none
def zc (c:Ctx) (t:TypeId) (h:H) (x:V):Option V :=
 match c.ty.get t with
 | none=>none
 | some ti =>
  match ti.desc,x with
  | .string,.str l=>some (.int .i64 (.ofNat (qP l 0)))
  | .array n _,_=>some (.int .i64 (.ofNat n))
  | .slice _,.slice _ _ n _=>some (.int .i64 (.ofNat n))
  | .slice _,.nilslice=>some (.int .i64 0)
  | .map _ _,.nilmap=>some (.int .i64 0)
  | .map _ _,.map r=>match h.get r with|some (.map es _)=>some (.int .i64 (.ofNat es.length))|_=>none
  | _,_=>none
def zVI (c:Ctx) (t:TypeId) (x:V):Option V :=
 match c.ty.get t with
 | none=>none
 | some ti =>
  match ti.desc,x with
  | .array n _,_=>some (.int .i64 (.ofNat n))
  | .slice _,.slice _ _ _ (.exact n)=>some (.int .i64 (.ofNat n))
  | .slice _,.nilslice=>some (.int .i64 0)
  | _,_=>none
def qQ (mx:Bool):V->List V->Option V
 | v,[]=>some v
 | .int k a,.int _ b::l=>qQ mx (.int k (cond (cond mx (Xz a b) (Xz b a)) b a)) l
 | _,_=>none
def KT:TypeDesc->Bool
 | .int _=>true
 | .string=>true
 | .bool=>true
 | _=>false
def zHh (c:Ctx) (xs:List V):List Field->Bool
 | []=>true
 | f::fs=>(match c.ty.get f.type with
   | some tf=>KT tf.desc && (match apart tf xs f.offset with|some _=>true|none=>false)
   | none=>false) && zHh c xs fs
def zHg (te:TI) (xs:List V):Nat->Nat->Bool
 | 0,_=>true
 | n+1,i=>(match apart te xs (i*te.size)with|some _=>true|none=>false) && zHg te xs n (i+1)
def Jq (c:Ctx) (t:TypeId) (v:V):Bool :=
 match c.ty.get t with
 | none=>false
 | some ti =>
  match ti.desc,v with
  | .int _,.int _ _=>true
  | .string,.str _=>true
  | .bool,.bool _=>true
  | .struct fs,.agg xs=>zHh c xs fs.toList
  | .array n e,.agg xs=>match c.ty.get e with|some te=>KT te.desc && zHg te xs n 0|none=>false
  | _,_=>false
def wT (c:Ctx) (t:TypeId) (k:V):List Ent->Nat->Option (Option (Nat×Ent))
 | [],_=>some none
 | e::es,i=>match aeq c 30 t k e.key with
  | some true=>some (some (i,e))
  | some false=>wT c t k es (i+1)
  | none=>none
def zM8 (h:H):V->Option (List Ent)
 | .nilmap=>some []
 | .map r=>match h.get r with|some (.map es _)=>some es|_=>none
 | _=>none
def qy (ok:Bool) (v:V) (b:Bool):V:=cond ok (.tuple [v,.bool b]) v
def KG (c:Ctx) (kt et:TypeId) (es:List Ent) (k:V) (ok:Bool):Option V :=
 cond (Jq c kt k)
  (match wT c kt k es 0 with
  | some (some (_,e))=>some (qy ok e.val true)
  | some none=>(match c.ty.get et with
   | some te=>(match te.zero with|some z=>some (qy ok z false)|none=>none)
   | none=>none)
  | none=>none) none
def JZ (c:Ctx) (t:TypeId) (h:H) (m k:V) (ok:Bool):Option V :=
 match c.ty.get t with
 | some ti =>
  match ti.desc with
  | .map kt et=>match zM8 h m with|some es=>KG c kt et es k ok|none=>none
  | _=>none
 | none=>none
def JP:List Ent->Nat->V->V->List Ent
 | [],_,_,_=>[]
 | e::es,0,k,v=>⟨k,v,e.born⟩::es
 | e::es,n+1,k,v=>e::JP es n k v
def zCd:V->V->Bool
 | .bool a,.bool b=>a == b
 | .int j a,.int k b=>xE j k && eqF a b
 | .str a,.str b=>eqB a b
 | _,_=>false
def JL:List V->List V->Bool
 | [],[]=>true
 | a::l,b::m=>zCd a b && JL l m
 | _,_=>false
def Jc:V->V->Bool
 | .agg a,.agg b=>JL a b
 | a,b=>zCd a b
def zAY (c : Ctx) (t : TypeId) (h : H) (m k v : V) : Option H :=
  match c.ty.get t with
  | some ti =>
    match ti.desc, m with
    | .map kt _, .map r =>
      match h.get r with
      | some (.map es clock) =>
        cond (Jq c kt k)
          (match wT c kt k es 0 with
          | some (some (i, e)) => cond (Jc e.key k) (some (h.upd r (some (.map (JP es i k v) clock)))) none
          | some none => some (h.upd r (some (.map (es ++ [⟨k, v, clock⟩]) (clock + 1))))
          | none => none) none
      | _ => none
    | _, _ => none
  | none => none
def KH (h:H):Option (V×H):=cond (Nat.blt h.next T.top) (some (.map h.next,h.new (.map [] 0))) none
def zK6 (c:Ctx) (t:TypeId) (x:V) (ok:Bool):Option V :=
 match c.ty.get t with
 | none=>none
 | some ti =>
  match ti.desc,x with
  | .interface _,_=>none
  | _,.iface d v =>
   cond (Nat.beq d t) (some (qy ok v true))
    (cond ok (match ti.zero with|some z=>some (qy true z false)|none=>none) none)
  | _,.nilIface=>cond ok (match ti.zero with|some z=>some (qy true z false)|none=>none) none
  | _,_=>none
def zQL:TypeDesc->Bool
 | .pointer _=>true
 | _=>false
def zHb (name:String):List Method->Option Method
 | []=>none
 | m::l=>cond (m.name == name) (some m) (zHb name l)
def zTc:TypeDesc->Option Nat
 | .pointer e=>some e
 | _=>none
def ZU (c:Ctx) (t:TypeId) (name:String):Option (Nat×Option Nat) :=
 match c.ty.get t with
 | none=>none
 | some ti =>
  match zHb name ti.meth with
  | none=>none
  | some m =>
   match m.path.toList,m.func with
   | [],some (f,pr)=>cond (zQL ti.desc == pr) (some (f,none)) (match zTc ti.desc,pr with|some e,false=>some (f,some e)|_,_=>none)
   | _,_=>none
inductive AN where
 | val (v:V) (h:H)
 | skip (h:H)
 | call (f:Nat) (args:List V)
 | round (l:Nat) (args:List V)
 | dfr (d:AD)
 | recover
 | pan (v:V) (h:H)
def AN.ofV:Option V->H->Option AN
 | some v,h=>some (.val v h)
 | none,_=>none
def AN.ofVH:Option (V×H)->Option AN
 | some (v,h)=>some (.val v h)
 | none=>none
def evO (e:Operand->Option V):Option Operand->Option (Option V)
 | none=>some none
 | some x=>match e x with|some v=>some (some v)|none=>none
def evP (e:Operand->Option V):List (Nat×Operand)->Option (List (Nat×V))
 | []=>some []
 | (i,x)::l =>
  match e x with
  | none=>none
  | some v=>match evP e l with|none=>none|some r=>some ((i,v)::r)
def Zv (h:H):V->Option V
 | .nilslice=>some .nilptr
 | .slice b o _ (.exact (_+1))=>some (.ptr b o)
 | .slice b o _ (.skip 0)=>match h.get b with
  | some (.cells l _ true true)=>cond (Nat.blt 0 l.len) (some (.ptr b o)) none
  | _=>none
 | _=>none
def Zw (c:Ctx) (pt:TypeId) (h:H) (p n:V):Option (V×H) :=
 match p,n with
 | .nilptr,.int _ (.ofNat 0)=>some (.str [],h)
 | .ptr _ _,.int _ (.ofNat 0)=>some (.str [],h)
 | .ptr b 0,.int _ (.ofNat n) =>
  match c.ty.get pt,h.get b with
  | some tp,some (.cells l esz true op) =>
   match tp.desc with
   | .pointer u =>
    match c.ty.get u with
    | some tu =>
     cond (Nat.beq tu.size 1 && Nat.beq esz.ty (u+1) && Nat.ble n 4611686018427387904)
      (match l.range 0 n with
      | some x=>(match xQ x with
       | some y=>some (.str y,h.upd b (some (.cells l ⟨esz.n,esz.ty,cond (Nat.ble esz.fz n) n esz.fz⟩ true op)))
       | none=>none)
      | none=>none) none
    | none=>none
   | _=>none
  | _,_=>none
 | _,_=>none
def Yw (c:Ctx) (g:Nat):Bool:=match c.noesc with|some k=>Nat.beq g k|none=>false
def zTk (c:Ctx) (g:Nat):Option Nat:=match c.mnz with|some (k,el)=>cond (Nat.beq g k) (some el) none|none=>none
def zVJ (el:Nat) (h:H) (first args captured:List V):Option (V×H) :=
 match first,args,captured with
 | [],[.int .i64 (.ofNat n)],[]=>cond (Nat.ble n 4294967296) (match ky h (some (.ls [])) ⟨1,el+1,0⟩ true with|some (b,h')=>some (.slice b 0 n (.skip 0),h')|none=>none) none
 | _,_,_=>none
def qH (c:Ctx) (h:H) (g:Nat) (first args captured:List V):Option AN :=
 cond (Yw c g) (match first,args,captured with | [],[x],[]=>some (.val x h)|_,_,_=>none)
  (match zTk c g with
  | some el=>AN.ofVH (zVJ el h first args captured)
  | none=>some (.call g (first++(args++captured))))
def yr (c:Ctx) (cl:Call) (e:Operand->Option V) (h:H):Option AN :=
 match qe e cl.args.toList with
 | none=>none
 | some args =>
  match cl.callee with
  | .value f =>
   match e f with
   | some (.func (.func g) first captured)=>qH c h g first args captured
   | some (.yield l)=>some (.round l args)
   | _=>none
  | .builtin b =>
   match b,args,cl.argTypes.toList with
   | .len,[x],[t]=>AN.ofV (zc c t h x) h
   | .cap,[x],[t]=>AN.ofV (zVI c t x) h
   | .append,[s,x],[t,tx]=>AN.ofVH (KD c tx t h s x)
   | .copy,[d,x],[t,_]=>AN.ofVH (zHS c t h d x)
   | .min,x::l,_=>AN.ofV (qQ false x l) h
   | .max,x::l,_=>AN.ofV (qQ true x l) h
   | .recover,[],_=>some .recover
   | .unsafeSliceData,[x],_=>AN.ofV (Zv h x) h
   | .unsafeString,[p,n],pt::_=>AN.ofVH (Zw c pt h p n)
   | _,_,_=>none
  | .invoke r name=>match e r with
   | some (.iface t v) =>
    (match ZU c t name with
    | some (f,none)=>some (.call f (v::args))
    | some (f,some el)=>(match zO c el h v with|some u=>some (.call f (u::args))|none=>none)
    | none=>none)
   | _=>none
def afa (c:Ctx) (fd:Field) (b o:Nat) (h:H):Option AN :=
 match c.ty.get fd.type with
 | some tf=>cond (Nat.blt 0 tf.size) (some (.val (.ptr b (o+fd.offset)) h)) none
 | none=>none
def yD (c:Ctx) (o:Oper) (e:Operand->Option V) (h:H):Option AN :=
 match o.op with
 | .move x=>AN.ofV (e x) h
 | .assign x=>AN.ofV (e x) h
 | .pick cc a b=>match e cc with|some (.bool t)=>AN.ofV (cond t (e a) (e b)) h|_=>none
 | .alloc t=>match c.ty.get t with
  | some ti=>match ti.zero with
   | some z=>match qi h z.cells ⟨0,t+1,0⟩ false with|some (b,h')=>some (.val (.ptr b 0) h')|none=>none
   | none=>none
  | none=>none
 | .box t x=>match e x with
  | some v=>match qi h v.cells ⟨0,t+1,0⟩ false with|some (b,h')=>some (.val (.ptr b 0) h')|none=>none
  | none=>none
 | .build t ps=>match evP e ps.toList with|some l=>AN.ofV (wc c t l) h|none=>none
 | .buildSlice t n ps=>match evP e ps.toList with|some l=>AN.ofVH (zS c t n l h)|none=>none
 | .load t a=>match e a with|some v=>AN.ofV (zO c t h v) h|none=>none
 | .store t a x=>match e a,e x with|some p,some v=>(match yA c t h p v with|some h'=>some (.skip h')|none=>none)|_,_=>none
 | .nilCheck x=>match e x with
  | some (.ptr b o)=>some (.val (.ptr b o) h)
  | some (.iface t v)=>some (.val (.iface t v) h)
  | some (.func (.func g) a b)=>some (.val (.func (.func g) a b) h)
  | some (.yield l)=>some (.val (.yield l) h)
  | _=>none
 | .binOp op t x y _=>match e x,e y with|some a,some b=>AN.ofV (yn c op t x y a b) h|_,_=>none
 | .unOp op _ x=>match e x with|some v=>AN.ofV (aun op v) h|none=>none
 | .convert s d x=>match e x with|some v=>AN.ofVH (yt c s d h v)|none=>none
 | .sliceToArrayPointer t x=>match c.ty.get t,e x with
  | some ti,some (.slice b o len _)=>match ti.desc with | .array n _=>cond (Nat.ble n len) (some (.val (.ptr b o) h)) none|_=>none
  | _,_=>none
 | .makeInterface t x=>match c.ty.get t,e x with
  | some ti,some v=>match ti.desc with | .interface _=>none|_=>some (.val (.iface t v) h)
  | _,_=>none
 | .makeFunc (.func g) first captured=>match qe e first.toList,qe e captured.toList with
  | some a,some b=>some (.val (.func (.func g) a b) h)
  | _,_=>none
 | .makeSlice t l k=>match e l,e k with|some a,some b=>AN.ofVH (we c t a b h)|_,_=>none
 | .slice t x lo hi mx=>match e x,evO e lo,evO e hi,evO e mx with
  | some v,some a,some b,some m=>AN.ofV (yP c t h v a b m) h
  | _,_,_,_=>none
 | .fieldAddr t x f=>match c.ty.get t,e x with
  | some ti,some (.ptr b o)=>match ti.desc with | .struct fs=>(match fs[f]? with|some fd=>afa c fd b o h|none=>none)|_=>none
  | _,_=>none
 | .field t x f=>match e x with|some v=>AN.ofV (zK2 c t v f) h|none=>none
 | .indexAddr t x ix=>match e x,e ix with|some a,some b=>AN.ofV (zV c t a b) h|_,_=>none
 | .index t x ix=>match e x,e ix with|some a,some b=>AN.ofV (jw c t a b) h|_,_=>none
 | .extract x i=>match e x with|some (.tuple l)=>AN.ofV l[i]? h|_=>none
 | .call cl=>yr c cl e h
 | .panic x=>match e x with|some (.iface t v)=>some (.pan (.iface t v) h)|_=>none
 | .defer cl=>match qe e cl.args.toList,cl.callee with
  | some args,.value f=>match e f with|some (.func (.func g) first captured)=>some (.dfr (.fn g captured (first++args)))|_=>none
  | _,_=>none
 | .makeMap _ none=>AN.ofVH (KH h)
 | .typeAssert x _ t ok=>match e x with|some v=>AN.ofV (zK6 c t v ok) h|none=>none
 | .lookup t x k ok=>match e x,e k with|some a,some b=>AN.ofV (JZ c t h a b ok) h|_,_=>none
 | .mapUpdate t m k v=>match e m,e k,e v with|some a,some b,some d=>(match zAY c t h a b d with|some h'=>some (.skip h')|none=>none)|_,_,_=>none
 | _=>none
inductive AX where
 | normal
 | exit (id:Nat)
 | ret
 | panic (v:V)
structure St where
 n:Nat
 tm:Tm
 dfr:List AD
 heap:H
inductive Out where
 | done (x:AX) (s:St)
inductive CallOut where
 | ret (v:V) (h:H)
 | panic (v:V) (h:H)
def yF (s:St) (d:Option Tmp) (v:V) (h:H):Option St :=
 match d with
 | none=>some { s with heap:=h }
 | some t=>cond (Nat.blt t s.n) (some { s with tm:=s.tm.set t v,heap:=h }) none
def zZ (ops:List Oper) (tm:Tm) (o:Oper):Bool :=
 match o.guard with
 | none=>true
 | some (j,w) =>
  match ops[j]? with
  | some o'=>match o'.dst with
   | some d=>match yB tm d with | .bool b=>b == w|_=>false
   | none=>false
  | none=>false
def wm:Edge->Bool
 | ⟨_,.textOnly _⟩=>false
 | ⟨_,.gcOnly _⟩=>false
 | _=>true
def zA9:Nat->List Nat->Bool
 | _,[]=>false
 | n,m::l=>cond (Nat.beq n m) true (zA9 n l)
def zp:List Oper->List Nat->List Nat
 | [],acc=>acc
 | o::l,acc=>zp l (acc++[o.after.toList.foldl (λs e=>cond (wm e) (s ||| 2^e.on ||| acc.getD e.on 0) s) 0])
def xb (ops:List Oper) (o:Oper):List Nat :=
  (match o.guard with
   | some (g,_)=>(match ops[g]? with|some o'=>(match o'.dst with|some d=>[d]|none=>[])|none=>[])
   | none=>[])++o.op.operands.toList.filterMap λ| .tmp t=>some t|_=>none
def zH3 (ops:List Oper) (a b:Oper):Bool :=
 (match a.dst with|some d=>zA9 d (xb ops b) || (match b.dst with|some d'=>Nat.beq d d'|none=>false)|none=>false) ||
 (match b.dst with|some d=>zA9 d (xb ops a)|none=>false)
def zE9 (ops:List Oper) (j:Nat) (oj:Oper) (bj:Nat):Nat->List Oper->Bool
 | _,[]=>true
 | i,oi::l=>cond (Nat.blt i j) (cond (Nat.testBit bj i || !(zH3 ops oi oj)) (zE9 ops j oj bj (i+1) l) false) true
def zH9 (j:Nat) (o:Oper):Bool :=
 o.after.toList.all λe=>Nat.blt e.on j || (match e.ground with | .gcOnly _=>true|_=>false)
def KN (e:Edge):Bool:=match e.ground with | .textOnly _=>false|_=>true
def Ox (ops:List Oper):List Nat->List Nat->Bool
 | [],_=>true
 | i::l,seen=>(match ops[i]? with|some o=>o.after.toList.all λe=>!(KN e) || zA9 e.on seen|none=>false) && Ox ops l (i::seen)
def YH (l:List Nat):Nat->Bool
 | 0=>true
 | n+1=>zA9 n l && YH l n
def zHd (o:Oper) (bj:Nat):Bool :=
 match o.guard with
 | none=>true
 | some (g,_)=>Nat.testBit bj g
def qZ (ops:List Oper) (bs:List Nat):Nat->List Oper->Bool
 | _,[]=>true
 | j,o::l=>zE9 ops j o (bs.getD j 0) 0 ops && zH9 j o && zHd o (bs.getD j 0) && qZ ops bs (j+1) l
def j6 (bs:List Nat):Nat->Nat
 | 0=>0
 | j+1=>cond (Nat.beq (bs.getD j 0 % 2^j) (2^j-1)) (j6 bs j) (j+1)
def xD (ops:List Oper):Option Nat :=
 let bs:=zp ops []
 cond (qZ ops bs 0 ops && (!(Region.departs ops.toArray) || (Ox ops (Region.linearise .gc ops.toArray 0) [] && YH (Region.linearise .gc ops.toArray 0) ops.length))) (some (j6 bs ops.length)) none
section
variable (c:Ctx) (orc:Nat->List V->H->Option (V×H))
def leave (results:List ResultVar) (tm:Tm) (h:H):List ResultVar->List V->Option (List V)
 | [],acc=>some acc.reverse
 | .tmp t::l,acc=>leave results tm h l (yB tm t::acc)
 | .cell a t::l,acc=>match zO c t h (yB tm a)with|some v=>leave results tm h l (v::acc)|none=>none
def yj:List V->V
 | [v]=>v
 | l=>.tuple l
def zF:List V->Nat->Tm->Tm
 | [],_,t=>t
 | v::l,i,t=>zF l (i+1) (t.set i v)
def xv (call:Nat->List V->H->Option CallOut):List AD->H->Option H
 | [],h=>some h
 | .coll id::l,h =>
  match h.get id with
  | some (.deferred true)=>xv call l (h.upd id (some (.deferred false)))
  | _=>none
 | .fn f cap args::l,h =>
  match call f (args++cap) h with
  | some (.ret _ h')=>xv call l h'
  | _=>none
def qp (ih:Bool->Code->St->Option Out) (fi:FI) (args:List V) (h:H):Option Out :=
 cond (Nat.ble (xr args 0) fi.n && Nat.ble fi.n 511) (ih false fi.body { n:=fi.n,tm:=zF args 0 (Tb.leaf zC),dfr:=[],heap:=h }) none
def zPo (fi:FI) (s:St):Option CallOut :=
 match s.dfr with
 | []=>match leave c fi.results s.tm s.heap fi.results []with|some vs=>some (.ret (yj vs) s.heap)|none=>none
 | _=>none
def zAn (ih:Bool->Code->St->Option Out) (f:Nat) (args:List V) (h:H):Option CallOut :=
 match c.fn.get f with
 | none=>none
 | some fi =>
  match qp ih fi args h with
  | some (.done .normal s)=>zPo c fi s
  | some (.done .ret s)=>zPo c fi s
  | _=>none
def zJB (ih:Bool->Code->St->Option Out) (fi:FI) (s:St):Option CallOut :=
 match xv (zAn c ih) s.dfr s.heap with
 | some h'=>match leave c fi.results s.tm h' fi.results []with|some vs=>some (.ret (yj vs) h')|none=>none
 | none=>none
def zDY (ih:Bool->Code->St->Option Out) (f:Nat) (args:List V) (h:H):Option CallOut :=
 match c.fn.get f with
 | none=>none
 | some fi =>
  match qp ih fi args h with
  | some (.done .normal s)=>zJB c ih fi s
  | some (.done .ret s)=>zJB c ih fi s
  | some (.done (.panic v) s)=>match s.dfr with | []=>some (.panic v s.heap)|_=>none
  | _=>none
def xe (ih:Bool->Code->St->Option Out) (f:Nat) (args:List V) (h:H):Option CallOut :=
 match orc f args h with
 | some (v,h')=>some (.ret v h')
 | none=>zDY c ih f args h
def xy:List Tmp->List V->Nat->Tm->Option (Tm)
 | [],[],_,t=>some t
 | p::ps,v::vs,n,t=>cond (Nat.blt p n) (xy ps vs n (t.set p v)) none
 | _,_,_,_=>none
def j3 (l:Nat) (x:AX) (s:St):Option CallOut :=
 match s.dfr,s.heap.get l with
 | [],some (.loop _ _ n tm ps asg bd df) =>
  match x with
  | .normal=>some (.ret (.bool true) (s.heap.upd l (some (.loop .ready none n tm ps asg bd df))))
  | .ret=>some (.ret (.bool false) (s.heap.upd l (some (.loop .done (some .ret) n tm ps asg bd df))))
  | .exit id=>some (.ret (.bool false) (s.heap.upd l (some (.loop .done (some (.exit id)) n tm ps asg bd df))))
  | .panic _=>none
 | _,_=>none
def JK (ih:Bool->Code->St->Option Out) (l:Nat) (body:Code) (s:St):Option CallOut :=
 match s.heap.get l with
 | some (.loop .ready pend n tm ps asg bd df) =>
  match ih true body { n:=s.n,tm:=s.tm,dfr:=s.dfr,heap:=s.heap.upd l (some (.loop .busy pend n tm ps asg bd df)) }with
  | some (.done x s2)=>j3 l x s2
  | none=>none
 | _=>none
def kb (ih:Bool->Code->St->Option Out) (l:Nat) (args:List V) (h:H):Option CallOut :=
 match h.get l with
 | some (.loop _ _ n tm params assign body _) =>
  match xy params.toList args n tm with
  | none=>none
  | some tm' =>
   match ih true assign { n:=n,tm:=tm',dfr:=[],heap:=h }with
   | some (.done .normal s)=>JK ih l body s
   | _=>none
 | _=>none
def z6 (rd:Bool) (ih:Bool->Code->St->Option Out) (o:Oper) (s:St):Option (AX×St) :=
 match yD c o (yQ s.tm) s.heap with
 | none=>none
 | some (.val v h)=>match yF s o.dst v h with|some s'=>some (.normal,s')|none=>none
 | some (.skip h)=>match yF s o.dst zC h with|some s'=>some (.normal,s')|none=>none
 | some (.call f args) =>
  match xe c orc ih f args s.heap with
  | some (.ret v h)=>match yF s o.dst v h with|some s'=>some (.normal,s')|none=>none
  | some (.panic v h)=>some (.panic v,{ s with heap:=h })
  | none=>none
 | some (.round l args) =>
  match kb ih l args s.heap with
  | some (.ret v h)=>match yF s o.dst v h with|some s'=>some (.normal,s')|none=>none
  | _=>none
 | some (.dfr d)=>cond rd none (match yF { s with dfr:=d::s.dfr } o.dst zC s.heap with|some s'=>some (.normal,s')|none=>none)
 | some (.pan v h)=>some (.panic v,{ s with heap:=h })
 | some .recover=>none
def xk (rd:Bool) (ih:Bool->Code->St->Option Out) (ops:List Oper):List Oper->St->Option Out
 | [],s=>some (.done .normal s)
 | o::l,s =>
  cond (zZ ops s.tm o)
   (match z6 c orc rd ih o s with
   | some (.normal,s')=>xk rd ih ops l s'
   | some (x,s')=>some (.done x s')
   | none=>none)
   (match yF s o.dst zC s.heap with|some s'=>xk rd ih ops l s'|none=>none)
def wQ (tm:Tm) (b:Nat) (o:Oper):Bool :=
 match o.op with
 | .move _ | .assign _ | .pick .. | .build .. | .binOp .. | .unOp .. | .field .. | .fieldAddr .. | .index .. | .indexAddr .. | .extract .. | .makeFunc .. | .makeInterface .. | .nilCheck _=>true
 | .load _ a=>match yQ tm a with|some (.ptr b' _)=>!(Nat.beq b b')|_=>false
 | .convert _ _ x=>match yQ tm x with|some (.int _ _)=>true|_=>false
 | .slice _ x _ _ _=>match yQ tm x with|some (.str _)=>true|some (.slice _ _ _ (.exact _))=>true|_=>false
 | _=>false
def Ol (ts:List Nat):Nat->List Oper->Bool
 | 0,_=>true
 | _,[]=>true
 | n+1,o::l=>(match o.dst with|some d=>!(zA9 d ts)|none=>true) && Ol ts n l
def Yk (ops:List Oper) (tm:Tm) (b bk:Nat):Nat->Nat->List Oper->Bool
 | _,0,_=>true
 | _,_,[]=>true
 | i,n+1,o::l=>cond (Nat.testBit bk i || (wQ tm b o && Ol (xb ops o) (n+1) (o::l))) (Yk ops tm b bk (i+1) n l) false
def kh (bs:List Nat) (k:Nat):Nat->Nat->Bool
 | _,0=>true
 | j,n+1=>cond (Nat.testBit (bs.getD j 0) k) (kh bs k (j+1) n) false
def XV (ops:List Oper) (bs:List Nat) (m k:Nat) (tm:Tm) (o:Oper):Bool :=
 match o.op with
 | .store _ a _ =>
  match yQ tm a with
  | some (.ptr b _)=>Yk ops tm b (bs.getD k 0) 0 k ops && kh bs k (k+1) (m-k-1)
  | _=>false
 | .mapUpdate _ a _ _ =>
  match yQ tm a with
  | some (.map b)=>Yk ops tm b (bs.getD k 0) 0 k ops && kh bs k (k+1) (m-k-1)
  | _=>false
 | _=>false
def Yj (o:Oper):Bool :=
 match o.op with
 | .move _ | .assign _ | .pick .. | .build .. | .binOp .. | .unOp .. | .field .. | .fieldAddr .. | .index .. | .indexAddr .. | .extract .. | .makeFunc .. | .makeInterface .. | .nilCheck _=>true
 | _=>false
def Yl (ops:List Oper) (bk:Nat):Nat->Nat->List Oper->Bool
 | _,0,_=>true
 | _,_,[]=>true
 | i,n+1,o::l=>cond (Nat.testBit bk i || (Yj o && Ol (xb ops o) (n+1) (o::l))) (Yl ops bk (i+1) n l) false
def Y0 (ops:List Oper) (bs:List Nat) (m k:Nat):Bool:=Yl ops (bs.getD k 0) 0 k ops && kh bs k (k+1) (m-k-1)
def wA (ops:List Oper) (bs:List Nat) (m k:Nat) (tm:Tm) (o:Oper):Bool:=XV ops bs m k tm o || Y0 ops bs m k
def yl:List AD->List AD->Bool
 | [],[]=>true
 | _::l,_::l'=>yl l l'
 | _,_=>false
def yJ (rd : Bool) (ih : Bool -> Code -> St -> Option Out) (ops : List Oper) (bs : List Nat) (m : Nat) : Nat -> Nat -> List Oper -> St -> Option Out
  | _, _, [], s => some (.done .normal s)
  | 0, _, l, s => xk c orc rd ih ops l s
  | r + 1, k, o::l, s =>
    cond (zZ ops s.tm o)
      (match z6 c orc rd ih o { s with heap := { s.heap with low := T.top } }with
      | some (.normal, s') =>
        cond (Nat.ble s.heap.next s'.heap.low || wA ops bs m k s.tm o)
          (cond (yl s.dfr s'.dfr) (yJ rd ih ops bs m r (k + 1) l { s' with heap := { s'.heap with low := cond (Nat.ble s.heap.low s'.heap.low) s.heap.low s'.heap.low } }) none) none
      | _ => none)
      (match yF s o.dst zC s.heap with|some s' => yJ rd ih ops bs m r (k + 1) l s'|none => none)
def j2 (d l:Nat) (s:St) (h3:H):Option Out :=
 match h3.get l with
 | some (.loop st pend n tm ps asg bd df) =>
  match st with
  | .busy=>none
  | _ =>
   match pend with
   | none=>some (.done .normal { n:=s.n,tm:=s.tm,dfr:=.coll d::s.dfr,heap:=h3.upd l (some (.loop .exhausted pend n tm ps asg bd df)) })
   | some .ret=>some (.done .ret { n:=s.n,tm:=s.tm,dfr:=.coll d::s.dfr,heap:=h3.upd l (some (.loop .exhausted pend n tm ps asg bd df)) })
   | some (.exit id)=>some (.done (.exit id) { n:=s.n,tm:=s.tm,dfr:=.coll d::s.dfr,heap:=h3.upd l (some (.loop .exhausted pend n tm ps asg bd df)) })
   | _=>none
 | _=>none
def qW (ih:Bool->Code->St->Option Out) (rd:Bool) (f:Operand) (params:Array Tmp) (assign body:Code) (s:St):Option Out :=
  match yQ s.tm f with
  | some (.func (.func g) first captured) =>
    cond (rd || !(Nat.blt (s.heap.next+1) T.top)) none
      (match xe c orc ih g (first++(.yield (s.heap.next+1)::captured)) ((s.heap.new (.deferred true)).new (.loop .ready none s.n s.tm params assign body s.heap.next))with
       | some (.ret _ h3)=>j2 s.heap.next (s.heap.next+1) s h3
       | _=>none)
  | _=>none
def yw (ih:Bool->Code->St->Option Out) (rd:Bool):Code->St->Option Out
 | .skip,s=>some (.done .normal s)
 | .region _ ops draw,s =>
  cond draw (match xD ops.toList with|some m=>yJ c orc rd ih ops.toList (zp ops.toList []) m m 0 ops.toList s|none=>none)
   (xk c orc rd ih ops.toList ops.toList s)
 | .seq a b,s =>
  match ih rd a s with
  | some (.done .normal s')=>ih rd b s'
  | r=>r
 | .cond x a b,s =>
  match yQ s.tm x with
  | some (.bool t)=>ih rd (cond t a b) s
  | _=>none
 | .block id b,s =>
  match ih rd b s with
  | some (.done (.exit i) s')=>cond (Nat.beq i id) (some (.done .normal s')) (some (.done (.exit i) s'))
  | r=>r
 | .loop b,s =>
  match ih rd b s with
  | some (.done .normal s')=>ih rd (.loop b) s'
  | r=>r
 | .scope b,s=>ih rd b s
 | .label _,s=>some (.done .normal s)
 | .exit id,s=>some (.done (.exit id) s)
 | .ret,s=>some (.done .ret s)
 | .rangeFunc f params assign body,s=>qW c orc ih rd f params assign body s
 | _,_=>none
def ev:Nat->Bool->Code->St->Option Out :=
 λn=>Nat.rec (motive:=λ_=>Bool->Code->St->Option Out) (λ_ _ _=>none) (λ_ r=>λrd code s=>yw c orc r rd code s) n
def run (n:Nat) (f:Nat) (args:List V) (h:H):Option CallOut:=xe c orc (ev c orc n) f args h
end
def TI.mk' (P : Program) (t : Nat) (i : TypeInfo) (d : TypeDesc) : TI :=
  { id := t, desc := d, size := i.size, bytes := i.bytes
    zero := match i.zero with|some v => ofV v|none => none
    cmp := i.comparable
    held := P.stoodInHeld t
    guard := P.eqGuardType P.depth t
    meth := i.methods.toList }
def TI.of (P:Program) (t:Nat) (i:TypeInfo):Option TI :=
 match i.desc with
 | .named _ u=>match P.types[u]? with|some j=>some (TI.mk' P t i j.desc)|none=>none
 | d=>some (TI.mk' P t i d)
def FI.of (f:Func):Option FI :=
 match f.body with
 | some b=>cond (f.name == "runtime.NumGoroutine") none (some { n:=f.ntmps,results:=f.results.toList,body:=b })
 | none=>none
def XZ (P:Program):Nat->List TypeInfo->T TI->T TI
 | _,[],t=>t
 | i,x::l,t=>XZ P (i+1) l (t.set i (TI.of P i x))
def Yi:Nat->List Func->T FI->T FI
 | _,[],t=>t
 | i,x::l,t=>Yi (i+1) l (t.set i (FI.of x))
def Ctx.of (P : Program) (ne : Option Nat) (mz : Option (Nat × Nat)) : Ctx :=
  { ty := XZ P 0 P.types.toList .leaf, fn := Yi 0 P.funcs.toList .leaf, noesc := ne, mnz := mz
    lies := λe u off => liesAt P P.depth e 1 off u 1 }
end Go.Sim
