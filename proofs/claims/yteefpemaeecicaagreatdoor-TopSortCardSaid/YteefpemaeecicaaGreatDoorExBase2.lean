/- The reckoning of code, of functions, of templates. No condition. -/
import Derived.Test.YteefpemaeecicaaGreatDoorExBase
open Go
set_option linter.unusedVariables false
set_option linter.constructorNameAsVariable false
namespace Go.Proofs.YteefpemaeecicaaGreatDoor.Ev
noncomputable section
/-! ### Trees, directly -/
def tget {α : Type} (k : Nat) : Pa k → Tr α k → α := Nat.rec (motive := fun k => Pa k → Tr α k → α) (fun _ t => t) (fun k ih (p : Dp (Pa k)) (t : N8 (Tr α k)) => Dp.rec (motive := fun _ => α) (fun d r => ih r (D8.rec (motive := fun _ => N8 (Tr α k) → Tr α k) (fun n => n.a0) (fun n => n.a1) (fun n => n.a2) (fun n => n.a3) (fun n => n.a4) (fun n => n.a5) (fun n => n.a6) (fun n => n.a7) d t)) p) k
def tset {α : Type} (k : Nat) : Pa k → Tr α k → α → Tr α k := Nat.rec (motive := fun k => Pa k → Tr α k → α → Tr α k) (fun _ _ x => x) (fun k ih (p : Dp (Pa k)) (t : N8 (Tr α k)) x => Dp.rec (motive := fun _ => Tr α (k + 1)) (fun d r => D8.rec (motive := fun _ => N8 (Tr α k) → N8 (Tr α k)) (fun n => N8.rec (motive := fun _ => N8 (Tr α k)) (fun a0 a1 a2 a3 a4 a5 a6 a7 => ⟨ih r a0 x, a1, a2, a3, a4, a5, a6, a7⟩) n) (fun n => N8.rec (motive := fun _ => N8 (Tr α k)) (fun a0 a1 a2 a3 a4 a5 a6 a7 => ⟨a0, ih r a1 x, a2, a3, a4, a5, a6, a7⟩) n) (fun n => N8.rec (motive := fun _ => N8 (Tr α k)) (fun a0 a1 a2 a3 a4 a5 a6 a7 => ⟨a0, a1, ih r a2 x, a3, a4, a5, a6, a7⟩) n) (fun n => N8.rec (motive := fun _ => N8 (Tr α k)) (fun a0 a1 a2 a3 a4 a5 a6 a7 => ⟨a0, a1, a2, ih r a3 x, a4, a5, a6, a7⟩) n) (fun n => N8.rec (motive := fun _ => N8 (Tr α k)) (fun a0 a1 a2 a3 a4 a5 a6 a7 => ⟨a0, a1, a2, a3, ih r a4 x, a5, a6, a7⟩) n) (fun n => N8.rec (motive := fun _ => N8 (Tr α k)) (fun a0 a1 a2 a3 a4 a5 a6 a7 => ⟨a0, a1, a2, a3, a4, ih r a5 x, a6, a7⟩) n) (fun n => N8.rec (motive := fun _ => N8 (Tr α k)) (fun a0 a1 a2 a3 a4 a5 a6 a7 => ⟨a0, a1, a2, a3, a4, a5, ih r a6 x, a7⟩) n) (fun n => N8.rec (motive := fun _ => N8 (Tr α k)) (fun a0 a1 a2 a3 a4 a5 a6 a7 => ⟨a0, a1, a2, a3, a4, a5, a6, ih r a7 x⟩) n) d t) p) k
/-- A list as a tree. -/
def bldD {α : Type} (k : Nat) : List α → Tr (Option α) k := Nat.rec (motive := fun k => List α → Tr (Option α) k) (fun l => (List.rec (motive := fun _ => Option α) (none) (fun a _t _ => some a) (l))) (fun k ih l => (⟨ih l, ih (ldrop l (Nat.mul 1 (Nat.pow 8 k))), ih (ldrop l (Nat.mul 2 (Nat.pow 8 k))), ih (ldrop l (Nat.mul 3 (Nat.pow 8 k))), ih (ldrop l (Nat.mul 4 (Nat.pow 8 k))), ih (ldrop l (Nat.mul 5 (Nat.pow 8 k))), ih (ldrop l (Nat.mul 6 (Nat.pow 8 k))), ih (ldrop l (Nat.mul 7 (Nat.pow 8 k)))⟩ : N8 (Tr (Option α) k))) k
/-! ### What the model's operations are -/
inductive OpF where
  | bad
  | mv (x : Operand)
  | p1 (F : AV → (AV → Ans) → Ans) (x : Operand)
  | p2 (F : AV → AV → (AV → Ans) → Ans) (x y : Operand)
  | p3 (F : AV → AV → AV → (AV → Ans) → Ans) (x y z : Operand)
  | pl (F : List AV → (AV → Ans) → Ans) (xs : List Operand)
  | l1 (F : AV → Hp → (AV → Ans) → Ans) (x : Operand)
  | l2 (F : AV → AV → Hp → (AV → Ans) → Ans) (x y : Operand)
  | al (F : List AV → Nm → (AV → Blk → Ans) → Ans) (xs : List Operand)
  | w1 (F : AV → Hp → (AV → Hp → Ans) → Ans) (x : Operand)
  | w2 (F : AV → AV → Hp → (AV → Hp → Ans) → Ans) (x y : Operand)
  | w3 (F : AV → AV → AV → Hp → (AV → Hp → Ans) → Ans) (x y z : Operand)
  | cf (f : Nat) (xs : List Operand)
  | cv (g : Operand) (xs : List Operand)
/-- The value of one cell. -/
def oneC (v : Value) : Bool := match v with | .agg _ | .tuple _ => false | _ => true
/-- An element of such cells. -/
def aggV (d s : Nat) (l : List AV) : AV := match d with
  | 0 => .a0 s (l.headD .u)
  | 1 => .a1 s (wrD 1 l 0 (fillT .u 1))
  | 2 => .a2 s (wrD 2 l 0 (fillT .u 2))
  | 3 => .a3 s (wrD 3 l 0 (fillT .u 3))
  | _ => .u
where
  wrD (k : Nat) : List AV → Nat → Tr AV k → Tr AV k
  | [], _, t => t
  | a :: l, i, t => wrD k l (i + 1) (tset k (paK k i) t a)
/-- The value of a constant. -/
def ofV : Nat → Value → AV
  | 0, _ => .u
  | _ + 1, .bool b => .b b
  | _ + 1, .int k z => if k.wrap z = z then .n (kc k) (z % (km k : Int)).toNat else .u
  | _ + 1, .float .f64 x => (match flOf x with | some z => .f z | none => .u)
  | _ + 1, .complex .f64 x y => (match flOf x, flOf y with | some a, some b => .c a b | _, _ => .u)
  | _ + 1, .string s => .s (s.data.toList.map UInt8.toNat)
  | _ + 1, .pointer none => .p0
  | _ + 1, .slice none 0 0 => .sl0
  | _ + 1, .map none => .m0
  | _ + 1, .nilFunc => .fn0
  | _ + 1, .nilIface => .if0
  | n + 1, .tuple cs => .tu (cs.toList.map (ofV n))
  | n + 1, .func (.func f) a b => .fn f (a.toList.map (ofV n)) (b.toList.map (ofV n))
  | n + 1, .agg cs => if decide (cs.size ≤ 512) && cs.toList.all oneC then aggV (dep cs.size) cs.size (cs.toList.map (ofV n)) else .u
  | _ + 1, _ => .u
/-- The types, as a tree. -/
structure Ty where
  t : Tr (Option TypeInfo) 4
  tk : List As
section
variable (T : Ty)
def inf (t : Nat) : Option TypeInfo := if t < 4096 then tget 4 (paK 4 t) T.t else none
def und (t : Nat) : Option TypeDesc := match inf T t with
  | some i => (match i.desc with | .named _ u => (inf T u).map (·.desc) | d => some d)
  | none => none
/-- How many cells, and in which form. -/
def shp (t : Nat) : Option (Nat × Nat) := match inf T t, und T t with
  | some i, some u => (match u with | .struct _ | .array _ _ => if 1 ≤ i.size ∧ i.size ≤ 512 then some (i.size, Nat.succ (dep i.size)) else none | _ => if i.size = 1 then some (1, 0) else none)
  | _, _ => none
/-- The zero value, if it has its type's shape. -/
def zeroA (t : Nat) : Option AV := match shp T t, (inf T t).bind (·.zero) with
  | some (_, 0), some v => if oneC v then some (ofV 4 v) else none
  | some (s, _ + 1), some (.agg cs) => if decide (cs.size = s) && cs.toList.all oneC then some (ofV 4 (.agg cs)) else none
  | _, _ => none
def plainK (t : Nat) : Option Nat := match und T t with | some (.int _) => some 0 | some .string => some 1 | some .bool => some 2 | _ => none
def plainS (t : Nat) : Option (List Nat) := match und T t, shp T t with
  | some (.struct fs), some (s, _) => if (fs.toList.all fun f => f.name != "_" && f.name != "addr") && decide (fs.toList.map (·.offset) = List.range s) then fs.toList.mapM fun f => plainK T f.type else none
  | _, _ => none
def keyT (t : Nat) : Option (AV → AV → (Bool → Ans) → Ans) := match und T t with | some (.int _) => some keyN | some .string => some keyS | _ => none
def ltS (H N a b : Nat) : Bool := Nat.ble (Nat.succ (Nat.mod (Nat.add a H) N)) (Nat.mod (Nat.add b H) N)
def ltU (a b : Nat) : Bool := Nat.ble (Nat.succ a) b
def binF (op : BinOp) (t : Nat) (x y : Operand) : OpF := match und T t with
  | some (.int j) =>
    let N := km j
    let H := kh j
    let ar (c : Nat) (F : Nat → Nat → Nat) : OpF := .p2 (fArithY c (kc j) F (kc j) N) x y
    let cm (c : Nat) (F : Nat → Nat → Bool) : OpF := .p2 (fCmpY T.tk c F (kc j)) x y
    let lt : Nat → Nat → Bool := if ksg j then ltS H N else ltU
    (match op with
    | .add => ar 0 fun a b => Nat.add a b
    | .sub => ar 1 fun a b => Nat.add a (Nat.sub N b)
    | .mul => ar 2 fun a b => Nat.mul a b
    | .quo => .p2 (fDivY 9 (kc j) (if ksg j then sQuo H N else fun a b => Nat.div a b) (kc j) N) x y
    | .rem => .p2 (fDivY 10 (kc j) (if ksg j then sRem H N else fun a b => Nat.mod a b) (kc j) N) x y
    | .and => ar 3 fun a b => Nat.land a b
    | .or => ar 4 fun a b => Nat.lor a b
    | .xor => ar 5 fun a b => Nat.xor a b
    | .andNot => ar 6 fun a b => Nat.land a (Nat.xor b (Nat.sub N 1))
    | .shl => .p2 (fShiftY 7 (kc j) (fun a b => Nat.mul a (Nat.pow 2 b)) (kc j) N) x y
    | .shr => .p2 (fShiftY 8 (kc j) (if ksg j then sShr H N else fun a b => Nat.div a (Nat.pow 2 b)) (kc j) N) x y
    | .eql => cm 0 fun a b => Nat.beq a b
    | .neq => cm 1 fun a b => not_ (Nat.beq a b)
    | .lss => cm 2 lt
    | .leq => cm 3 fun a b => not_ (lt b a)
    | .gtr => cm 4 fun a b => lt b a
    | .geq => cm 5 fun a b => not_ (lt a b))
  | some .string => (match op with
    | .add => .p2 fCat x y
    | .eql => .p2 (fStrY T.tk false) x y
    | .neq => .p2 (fStrY T.tk true) x y
    | .lss => .p2 (fStr ltL) x y
    | .leq => .p2 (fStr fun a b => or_ (ltL a b) (eqL a b)) x y
    | .gtr => .p2 (fStr fun a b => not_ (or_ (ltL a b) (eqL a b))) x y
    | .geq => .p2 (fStr fun a b => not_ (ltL a b)) x y
    | _ => .bad)
  | some .bool => (match op with | .eql => .p2 (fBool eqB) x y | .neq => .p2 (fBool fun a b => not_ (eqB a b)) x y | _ => .bad)
  | some (.pointer e) => (match inf T e with | some i => if i.size = 0 then .bad else (match op with | .eql => .p2 (fPtr false) x y | .neq => .p2 (fPtr true) x y | _ => .bad) | none => .bad)
  | some (.slice _) => (match op with | .eql => .p2 (fNilEq isNilL isSomeL false) x y | .neq => .p2 (fNilEq isNilL isSomeL true) x y | _ => .bad)
  | some (.map _ _) => (match op with | .eql => .p2 (fNilEq isNilM isSomeM false) x y | .neq => .p2 (fNilEq isNilM isSomeM true) x y | _ => .bad)
  | some (.func _ _ _) => (match op with | .eql => .p2 (fNilEq isNilF isSomeF false) x y | .neq => .p2 (fNilEq isNilF isSomeF true) x y | _ => .bad)
  | some (.complex .f64) => (match op with | .add => .p2 (fCAddY T.tk) x y | .mul => .p2 fCMul x y | .eql => .p2 (fCEqY T.tk false) x y | .neq => .p2 (fCEqY T.tk true) x y | _ => .bad)
  | some (.struct _) => (match plainS T t, shp T t with | some ks, some (s, f) => (match op with | .eql => .p2 (fStruct T.tk false ks s f) x y | .neq => .p2 (fStruct T.tk true ks s f) x y | _ => .bad) | _, _ => .bad)
  | _ => .bad
def unF (op : UnOp) (t : Nat) (x : Operand) : OpF := match op with
  | .neg => (match und T t with | some (.int j) => .p1 (fNumY 11 (kc j) (fun a => Nat.sub (km j) a) (kc j) (kc j) (km j)) x | _ => .bad)
  | .not => .p1 fNot x
  | .xor => (match und T t with | some (.int j) => .p1 (fNumY 12 (kc j) (fun a => Nat.xor a (Nat.sub (km j) 1)) (kc j) (kc j) (km j)) x | _ => .bad)
  | _ => .bad
def convF (src dst : Nat) (x : Operand) : OpF := match und T src, und T dst with
  | some (.int i), some (.int j) => .p1 (fNumY (20 + kc j) (kc i) (if ksg i && km i < km j then sExt (kh i) (km i) (km j) else fun a => a) (kc i) (kc j) (km j)) x
  | some (.int i), some (.float .f64) => .p1 (fIntFloY T.tk (kc i) (if ksg i then kh i else km i) (km i)) x
  | some (.float .f64), some (.int j) => .p1 (fFloIntY T.tk (kc j) (if ksg j then kh j else 0) (if ksg j then kh j else km j) (km j)) x
  | some .string, some .string => .p1 fStrStr x
  | some (.slice e), some .string => (match und T e with | some (.int .u8) => .l1 fBytStr x | _ => .bad)
  | some .string, some (.slice e) => (match und T e with | some (.int .u8) => .w1 (fStrByt e) x | _ => .bad)
  | some (.slice _), some (.slice e) => (match und T e with | some (.int .u8) => if src = dst then .w1 fBytByt x else .bad | _ => .bad)
  | _, _ => .bad
def sliceF (t : Nat) (x : Operand) (lo hi mx : Option Operand) : OpF :=
  let xs := x :: (lo.toList ++ (hi.toList ++ mx.toList))
  let at_ (g : AV → Option AV → Option AV → Option AV → (AV → Ans) → Ans) : List AV → (AV → Ans) → Ans := match lo.isSome, hi.isSome, mx.isSome with
    | false, false, false => fun l0 kk => (List.rec (motive := fun _ => Ans) (Ans.no) (fun x l1 _ => g x none none none kk) (l0))
    | true, false, false => fun l0 kk => (List.rec (motive := fun _ => Ans) (Ans.no) (fun x l1 _ => (List.rec (motive := fun _ => Ans) (Ans.no) (fun a l2 _ => g x (some a) none none kk) (l1))) (l0))
    | false, true, false => fun l0 kk => (List.rec (motive := fun _ => Ans) (Ans.no) (fun x l1 _ => (List.rec (motive := fun _ => Ans) (Ans.no) (fun a l2 _ => g x none (some a) none kk) (l1))) (l0))
    | true, true, false => fun l0 kk => (List.rec (motive := fun _ => Ans) (Ans.no) (fun x l1 _ => (List.rec (motive := fun _ => Ans) (Ans.no) (fun a l2 _ => (List.rec (motive := fun _ => Ans) (Ans.no) (fun b l3 _ => g x (some a) (some b) none kk) (l2))) (l1))) (l0))
    | false, true, true => fun l0 kk => (List.rec (motive := fun _ => Ans) (Ans.no) (fun x l1 _ => (List.rec (motive := fun _ => Ans) (Ans.no) (fun a l2 _ => (List.rec (motive := fun _ => Ans) (Ans.no) (fun b l3 _ => g x none (some a) (some b) kk) (l2))) (l1))) (l0))
    | true, true, true => fun l0 kk => (List.rec (motive := fun _ => Ans) (Ans.no) (fun x l1 _ => (List.rec (motive := fun _ => Ans) (Ans.no) (fun a l2 _ => (List.rec (motive := fun _ => Ans) (Ans.no) (fun b l3 _ => (List.rec (motive := fun _ => Ans) (Ans.no) (fun c l4 _ => g x (some a) (some b) (some c) kk) (l3))) (l2))) (l1))) (l0))
    | _, _, _ => fun _ _ => Ans.no
  match und T t with
  | some .string => if mx.isSome then .bad else .pl (at_ fun x a b _ => fSliceS x a b) xs
  | some (.slice e) => (match shp T e with | some (s, _) => .pl (at_ (fSlice s)) xs | none => .bad)
  | some (.array n e) => (match shp T e with | some (s, _) => if n ≤ 1000000000 then .pl (at_ (fSliceA s n)) xs else .bad | none => .bad)
  | _ => .bad
def fieldAddrF (t : Nat) (x : Operand) (i : Nat) : OpF := match und T t with
  | some (.struct fs) => (match fs[i]? with
    | some f => (match inf T f.type with | some j => if j.size = 0 then .bad else .p1 (fFieldAddr f.offset) x | none => .bad)
    | none => .bad)
  | _ => .bad
def fieldF (t : Nat) (x : Operand) (i : Nat) : OpF := match und T t, shp T t with
  | some (.struct fs), some (sx, fx) => (match fs[i]? with
    | some f => (match shp T f.type with
      | some (s, fo) => if f.offset + s ≤ sx then (match fo with | 0 => .p1 (fField1 fx sx f.offset) x | fo => .p1 (fFieldA fx sx f.offset s fo) x) else .bad
      | none => .bad)
    | none => .bad)
  | _, _ => .bad
def indexAddrF (t : Nat) (x i : Operand) : OpF := match und T t with
  | some (.slice e) => (match inf T e with | some j => if j.size = 0 then .bad else .p2 (fIndexAddrS j.size) x i | none => .bad)
  | some (.array n e) => (match inf T e with | some j => if j.size = 0 ∨ 1000000000 < n then .bad else .p2 (fIndexAddrA j.size n) x i | none => .bad)
  | _ => .bad
def indexF (t : Nat) (x i : Operand) : OpF := match und T t with
  | some (.array n e) => (match shp T t, shp T e with
    | some (sx, fx), some (s, f) => if n * s ≤ sx ∧ n ≤ 1000000000 then (match f with | 0 => .p2 (fIndex1 fx sx n) x i | f => .p2 (fIndexA fx sx n s f) x i) else .bad
    | _, _ => .bad)
  | some .string => .p2 fIndexS x i
  | _ => .bad
def partsF (sx : Nat) (fs : Nat → Option (Nat × Nat)) (ps : List (Nat × Operand)) : Option (List (Nat × Nat × Nat)) :=
  ps.mapM fun p => (fs p.1).bind fun q => (shp T q.2).bind fun r => if q.1 + r.1 ≤ sx then some (q.1, r.1, r.2) else none
def buildF (t : Nat) (ps : List (Nat × Operand)) : OpF := match zeroA T t, shp T t, und T t with
  | some z, some (sx, fx), some (.struct fs) => if fs.toList.all fun f => (inf T f.type).isSome then (match partsF T sx (fun i => (fs[i]?).map fun f => (f.offset, f.type)) ps with | some qs => .pl (fBuild fx z qs) (ps.map (·.2)) | none => .bad) else .bad
  | some z, some (sx, fx), some (.array _ e) => (match inf T e with
    | some j => (match partsF T sx (fun i => some (i * j.size, e)) ps with | some qs => .pl (fBuild fx z qs) (ps.map (·.2)) | none => .bad)
    | none => .bad)
  | _, _, _ => .bad
def buildSliceF (t : Nat) (len : Nat) (ps : List (Nat × Operand)) : OpF := match und T t with
  | some (.slice e) => (match zeroA T e, shp T e with
    | some z, some (s, f) => if len * s ≤ 16777216 ∧ len ≤ 262144 ∧ ps.all (fun p => p.1 < len) then .al (fBuildSlice e s f len z (ps.map (·.1))) (ps.map (·.2)) else .bad
    | _, _ => .bad)
  | _ => .bad
def loadF (t : Nat) (a : Operand) : OpF := match shp T t with | some (_, 0) => .l1 fLoad1 a | some (s, f) => .l1 (fLoadA s f) a | none => .bad
def storeF (t : Nat) (a x : Operand) : OpF := match shp T t with | some (_, 0) => .w2 fStore1 a x | some (s, f) => .w2 (fStoreA s f) a x | none => .bad
def makeSliceF (t : Nat) (l c : Operand) : OpF := match und T t with
  | some (.slice e) => (match zeroA T e, shp T e, inf T e with
    | some z, some (s, f), some i => if i.bytes ≤ 1000000 then .w2 (fMakeSlice e s f z) l c else .bad
    | _, _, _ => .bad)
  | _ => .bad
def minMaxF (g : Bool) (t : Nat) (x y : Operand) : OpF := match und T t with
  | some (.int j) =>
    let lt : Nat → Nat → Bool := if ksg j then ltS (kh j) (km j) else ltU
    .p2 (fMinMaxY T.tk (if g then 4 else 2) (if g then fun b a => lt a b else lt) (kc j)) x y
  | _ => .bad
def callF (c : Call) : OpF := match c.callee with
  | .value (.func f) => .cf f c.args.toList
  | .value g => .cv g c.args.toList
  | .invoke _ _ => .bad
  | .builtin b => (match b, c.args.toList with
    | .append, [x, y] => (match (c.argTypes[0]?).bind (und T), (c.argTypes[1]?).bind (und T) with
      | some (.slice _), some (.int _) => .bad
      | some (.slice e), some _ => (match shp T e, inf T e, zeroA T e with
        | some (s, f), some i, some _ => if 1 ≤ i.bytes ∧ i.bytes ≤ 1000000 then .w2 (fAppend e s f) x y else .bad
        | _, _, _ => .bad)
      | _, _ => .bad)
    | .copy, [x, y] => (match (c.argTypes[0]?).bind (und T) with
      | some (.slice e) => (match shp T e with | some (s, f) => .w2 (fCopy s f) x y | none => .bad)
      | _ => .bad)
    | .len, [x] => (match (c.argTypes[0]?).bind (und T) with
      | some .string => .p1 fLenS x
      | some (.slice _) => .p1 fLenL x
      | some (.map _ _) => .l1 fLenM x
      | some (.array n _) => if n ≤ 1000000000 then .p1 (fLenA n) x else .bad
      | _ => .bad)
    | .min, [x, y] => minMaxF T false (c.argTypes.getD 0 0) x y
    | .max, [x, y] => minMaxF T true (c.argTypes.getD 0 0) x y
    | .complex, [x, y] => .p2 fComplexY x y
    | .real, [x] => .p1 (fRealY false) x
    | .imag, [x] => .p1 (fRealY true) x
    | _, _ => .bad)
def opF (o : Op) : OpF := match o with
  | .move x | .assign x => .mv x
  | .pick c a b => .p3 fPick c a b
  | .alloc t => (match zeroA T t, shp T t with | some z, some (s, f) => .al (fun _ => fAlloc t s f z) [] | _, _ => .bad)
  | .box t x => (match shp T t with | some (s, f) => .al (fun l nm kk => (List.rec (motive := fun _ => Ans) (Ans.no) (fun x _t _ => fBox t s f x nm kk) (l))) [x] | none => .bad)
  | .build t ps => buildF T t ps.toList
  | .buildSlice t l ps => buildSliceF T t l ps.toList
  | .load t a => loadF T t a
  | .store t a x => storeF T t a x
  | .nilCheck x => .p1 fNil x
  | .binOp op t x y _ => binF T op t x y
  | .unOp op t x => unF T op t x
  | .convert s d x => convF T s d x
  | .makeFunc (.func f) a b => .pl (fun l kk => kk (.fn f (ltake l a.size) (ldrop l a.size))) (a.toList ++ b.toList)
  | .makeMap _ none => .w1 (fun _ => fMakeMap) (.const (.bool true))
  | .makeMap t (some (.const (.int k n))) => (match und T t with | some (.map _ _) => .w1 fMakeMapN (.const (.int k n)) | _ => .bad)
  | .makeSlice t l c => makeSliceF T t l c
  | .slice t x l h m => sliceF T t x l h m
  | .fieldAddr t x i => fieldAddrF T t x i
  | .field t x i => fieldF T t x i
  | .indexAddr t x i => indexAddrF T t x i
  | .index t x i => indexF T t x i
  | .lookup t x i ok => (match und T t with
    | some (.map kt e) => (match zeroA T e, keyT T kt with | some z, some E => .l2 (fLookup E ok z) x i | _, _ => .bad)
    | _ => .bad)
  | .mapUpdate t m i v => (match und T t with | some (.map kt _) => (match keyT T kt with | some E => .w3 (fMapUpdate E) m i v | none => .bad) | _ => .bad)
  | .extract x i => .p1 (fExtract i) x
  | .call c => callF T c
  | _ => .bad
/-! ### Code -/
inductive Src where
  | lvl (j : Nat)
  | cst (v : AV)
  | fr (p : Nat)
/-- What is known of the temporaries, up to 512. -/
structure Gm where
  t : Tr (Option Src) 3
def Gm.no : Gm := ⟨fillT none 3⟩
def Gm.at (g : Gm) (t : Nat) : Option Src := tget 3 (paK 3 t) g.t
def Gm.to (g : Gm) (t : Nat) (s : Src) : Gm := ⟨tset 3 (paK 3 t) g.t (some s)⟩
/-- The temporaries that live in the frame, and where. -/
structure Em where
  n : Nat
  l : List Nat
  t : Tr (Option Nat) 3
def Em.of (n : Nat) (l : List Nat) : Em := ⟨n, l, (lrec l (fun (_ : Nat) t => t) (fun a _ ih p t => ih (Nat.succ p) (bif_ (Nat.ble (Nat.succ a) 512) (tset 3 (paK 3 a) t (some p)) t)) : Nat → Tr (Option Nat) 3 → Tr (Option Nat) 3) 0 (fillT none 3)⟩
section
variable (k : Nat) (E : Em)
def srcOf (G : Gm) (t : Nat) : Option Src := bif_ (Nat.ble (Nat.succ t) E.n) ((Option.rec (motive := fun _ => Option Src) ((Option.rec (motive := fun _ => Option Src) (none) (fun p => bif_ (Nat.ble (Nat.succ p) (Nat.pow 8 k)) (some (.fr p)) none) (tget 3 (paK 3 t) E.t))) (fun s => some s) (G.at t))) none
def geV (i : Nat) : Nat → Option (Gv k i) := Nat.rec (motive := fun i => Nat → Option (Gv k i)) (fun _ => none) (fun i ih d => Nat.rec (motive := fun _ => Option (Gv k (i + 1))) (some ⟨fun _ (e : Ce (Ve i)) => e.v⟩) (fun d _ => Option.rec (motive := fun _ => Option (Gv k (i + 1))) none (fun g => Gv.rec (motive := fun _ => Option (Gv k (i + 1))) (fun g => some ⟨fun fr (e : Ce (Ve i)) => g fr e.r⟩) g) (ih d)) d) i
def srcG (i : Nat) (s : Src) : Option (Gv k i) := Src.rec (motive := fun _ => Option (Gv k i)) (fun j => bif_ (Nat.ble (Nat.succ j) i) (geV k i (Nat.sub (Nat.sub i 1) j)) none) (fun v => some ⟨fun _ _ => v⟩) (fun p => Gc.rec (motive := fun _ => Option (Gv k i)) (fun g => some ⟨fun fr _ => g fr⟩) (getc k (paK k p))) s
def opS (G : Gm) (x : Operand) : Option Src := match x with
  | .tmp t => srcOf k E G t
  | .const v => some (.cst (ofV 8 v))
  | .func f => some (.cst (.fn f [] []))
  | .global _ => none
def opnd (i : Nat) (G : Gm) (x : Operand) : Option (Gv k i) := (Option.rec (motive := fun _ => Option (Gv k i)) (none) (fun s => srcG k i s) (opS k E G x))
def opnds (i : Nat) (G : Gm) (l : List Operand) : Option (Gl k i) := lrec l (some ⟨fun _ _ => []⟩) fun x _ ih => (Option.rec (motive := fun _ => Option (Gl k i)) (none) (fun g => (Option.rec (motive := fun _ => Option (Gl k i)) (none) (fun r => Gv.rec (motive := fun _ => Option (Gl k i)) (fun g => Gl.rec (motive := fun _ => Option (Gl k i)) (fun r => some ⟨fun fr e => g fr e :: r fr e⟩) r) g) (ih))) (opnd k E i G x))

def badO (i : Nat) : Oc k i := ⟨fun _ _ _ _ => Ans.no⟩
/-- An operation, and what comes behind it. -/
def node (i : Nat) (G : Gm) (o : OpF) (nx : Oc k (i + 1)) : Oc k i := match o with
  | .bad => badO k i
  | .mv x => (Option.rec (motive := fun _ => Oc k i) (badO k i) (fun x => Gv.rec (motive := fun _ => Oc k i) (fun x => ⟨fun cx fr e h => (fun v => Oc.rec (k := k) (i := i + 1) (motive := fun _ => Ans) (fun run => run cx fr (⟨v, e⟩ : Ce (Ve i)) h) nx) (x fr e)⟩) x) (opnd k E i G x))
  | .p1 F x => (Option.rec (motive := fun _ => Oc k i) (badO k i) (fun x => Gv.rec (motive := fun _ => Oc k i) (fun x => ⟨fun cx fr e h => F (x fr e) fun v => Oc.rec (k := k) (i := i + 1) (motive := fun _ => Ans) (fun run => run cx fr (⟨v, e⟩ : Ce (Ve i)) h) nx⟩) x) (opnd k E i G x))
  | .p2 F x y => (Option.rec (motive := fun _ => Oc k i) (badO k i) (fun x => Gv.rec (motive := fun _ => Oc k i) (fun x => (Option.rec (motive := fun _ => Oc k i) (badO k i) (fun y => Gv.rec (motive := fun _ => Oc k i) (fun y => ⟨fun cx fr e h => F (x fr e) (y fr e) fun v => Oc.rec (k := k) (i := i + 1) (motive := fun _ => Ans) (fun run => run cx fr (⟨v, e⟩ : Ce (Ve i)) h) nx⟩) y) (opnd k E i G y))) x) (opnd k E i G x))
  | .p3 F x y z => (Option.rec (motive := fun _ => Oc k i) (badO k i) (fun x => Gv.rec (motive := fun _ => Oc k i) (fun x => (Option.rec (motive := fun _ => Oc k i) (badO k i) (fun y => Gv.rec (motive := fun _ => Oc k i) (fun y => (Option.rec (motive := fun _ => Oc k i) (badO k i) (fun z => Gv.rec (motive := fun _ => Oc k i) (fun z => ⟨fun cx fr e h => F (x fr e) (y fr e) (z fr e) fun v => Oc.rec (k := k) (i := i + 1) (motive := fun _ => Ans) (fun run => run cx fr (⟨v, e⟩ : Ce (Ve i)) h) nx⟩) z) (opnd k E i G z))) y) (opnd k E i G y))) x) (opnd k E i G x))
  | .pl F xs => (Option.rec (motive := fun _ => Oc k i) (badO k i) (fun xs => Gl.rec (motive := fun _ => Oc k i) (fun xs => ⟨fun cx fr e h => F (xs fr e) fun v => Oc.rec (k := k) (i := i + 1) (motive := fun _ => Ans) (fun run => run cx fr (⟨v, e⟩ : Ce (Ve i)) h) nx⟩) xs) (opnds k E i G xs))
  | .l1 F x => (Option.rec (motive := fun _ => Oc k i) (badO k i) (fun x => Gv.rec (motive := fun _ => Oc k i) (fun x => ⟨fun cx fr e h => F (x fr e) h fun v => Oc.rec (k := k) (i := i + 1) (motive := fun _ => Ans) (fun run => run cx fr (⟨v, e⟩ : Ce (Ve i)) h) nx⟩) x) (opnd k E i G x))
  | .l2 F x y => (Option.rec (motive := fun _ => Oc k i) (badO k i) (fun x => Gv.rec (motive := fun _ => Oc k i) (fun x => (Option.rec (motive := fun _ => Oc k i) (badO k i) (fun y => Gv.rec (motive := fun _ => Oc k i) (fun y => ⟨fun cx fr e h => F (x fr e) (y fr e) h fun v => Oc.rec (k := k) (i := i + 1) (motive := fun _ => Ans) (fun run => run cx fr (⟨v, e⟩ : Ce (Ve i)) h) nx⟩) y) (opnd k E i G y))) x) (opnd k E i G x))
  | .al F xs => (Option.rec (motive := fun _ => Oc k i) (badO k i) (fun xs => Gl.rec (motive := fun _ => Oc k i) (fun xs => ⟨fun cx fr e h => (Hp.rec (motive := fun _ => Ans) (fun m_ c_ => F (xs fr e) c_ fun v b => Nm.nxt c_ fun c' => Oc.rec (k := k) (i := i + 1) (motive := fun _ => Ans) (fun run => run cx fr (⟨v, e⟩ : Ce (Ve i)) ⟨Mem.to c_ m_ b, c'⟩) nx) h)⟩) xs) (opnds k E i G xs))
  | .w1 F x => (Option.rec (motive := fun _ => Oc k i) (badO k i) (fun x => Gv.rec (motive := fun _ => Oc k i) (fun x => ⟨fun cx fr e h => F (x fr e) h fun v h => Oc.rec (k := k) (i := i + 1) (motive := fun _ => Ans) (fun run => run cx fr (⟨v, e⟩ : Ce (Ve i)) h) nx⟩) x) (opnd k E i G x))
  | .w2 F x y => (Option.rec (motive := fun _ => Oc k i) (badO k i) (fun x => Gv.rec (motive := fun _ => Oc k i) (fun x => (Option.rec (motive := fun _ => Oc k i) (badO k i) (fun y => Gv.rec (motive := fun _ => Oc k i) (fun y => ⟨fun cx fr e h => F (x fr e) (y fr e) h fun v h => Oc.rec (k := k) (i := i + 1) (motive := fun _ => Ans) (fun run => run cx fr (⟨v, e⟩ : Ce (Ve i)) h) nx⟩) y) (opnd k E i G y))) x) (opnd k E i G x))
  | .w3 F x y z => (Option.rec (motive := fun _ => Oc k i) (badO k i) (fun x => Gv.rec (motive := fun _ => Oc k i) (fun x => (Option.rec (motive := fun _ => Oc k i) (badO k i) (fun y => Gv.rec (motive := fun _ => Oc k i) (fun y => (Option.rec (motive := fun _ => Oc k i) (badO k i) (fun z => Gv.rec (motive := fun _ => Oc k i) (fun z => ⟨fun cx fr e h => F (x fr e) (y fr e) (z fr e) h fun v h => Oc.rec (k := k) (i := i + 1) (motive := fun _ => Ans) (fun run => run cx fr (⟨v, e⟩ : Ce (Ve i)) h) nx⟩) z) (opnd k E i G z))) y) (opnd k E i G y))) x) (opnd k E i G x))
  | .cf f xs => (Option.rec (motive := fun _ => Oc k i) (badO k i) (fun xs => Gl.rec (motive := fun _ => Oc k i) (fun xs => ⟨fun cx fr e h => (Cx.rec (motive := fun _ => Ans) (fun hn _n _e _g _r => H.rec (motive := fun _ => Ans) (fun run => run (f) (xs fr e) h (fun v h => Oc.rec (k := k) (i := i + 1) (motive := fun _ => Ans) (fun run => run cx fr (⟨v, e⟩ : Ce (Ve i)) h) nx)) hn) cx)⟩) xs) (opnds k E i G xs))
  | .cv g xs => (Option.rec (motive := fun _ => Oc k i) (badO k i) (fun g => Gv.rec (motive := fun _ => Oc k i) (fun g => (Option.rec (motive := fun _ => Oc k i) (badO k i) (fun xs => Gl.rec (motive := fun _ => Oc k i) (fun xs => ⟨fun cx fr e h => (AVr Ans.no (fun _ _ => Ans.no) (fun _ => Ans.no) (fun _ _ => Ans.no) Ans.no (fun _ => Ans.no) Ans.no (fun f a b _ _ => (Cx.rec (motive := fun _ => Ans) (fun hn _n _e _g _r => H.rec (motive := fun _ => Ans) (fun run => run (f) (lapp a (lapp (xs fr e) b)) h (fun v h => Oc.rec (k := k) (i := i + 1) (motive := fun _ => Ans) (fun run => run cx fr (⟨v, e⟩ : Ce (Ve i)) h) nx)) hn) cx)) Ans.no (fun _ _ => Ans.no) (fun _ => Ans.no) Ans.no Ans.no Ans.no (fun _ _ _ => Ans.no) (fun _ _ _ => Ans.no) (fun _ _ _ => Ans.no) (fun _ _ _ => Ans.no) (fun _ _ _ _ => Ans.no) (fun _ _ _ => Ans.no) (fun _ => Ans.no) (fun _ _ => Ans.no) (fun _ _ => Ans.no) (fun _ _ => Ans.no) (g fr e))⟩) xs) (opnds k E i G xs))) g) (opnd k E i G g))
def dstG (d : Option Nat) (s : Src) (G : Gm) : Gm := (Option.rec (motive := fun _ => Gm) (G) (fun t => bif_ (Nat.ble (Nat.succ t) E.n) (G.to t s) G) (d))
/-- The temporary that a guard looks at. -/
def guardT (ops : List Oper) (g : Nat) : Option Nat := (ops[g]?).bind (·.dst)
/-- An operation under its guard. -/
def guarded (ops : List Oper) (i : Nat) (G : Gm) (o : Oper) (nx : Oc k (i + 1)) : Oc k i := (Option.rec (motive := fun _ => Oc k i) (node k E i G (opF T o.op) nx) (fun g => (Prod.rec (motive := fun _ => Oc k i) (fun g want => (Option.rec (motive := fun _ => Oc k i) (⟨fun cx fr e h => Oc.rec (k := k) (i := i + 1) (motive := fun _ => Ans) (fun run => run cx fr (⟨.tu [], e⟩ : Ce (Ve i)) h) nx⟩) (fun t => let y := node k E i G (opF T o.op) nx; (Option.rec (motive := fun _ => Oc k i) (badO k i) (fun x => Gv.rec (motive := fun _ => Oc k i) (fun x => ⟨fun cx fr e h => (AVr Ans.no (fun _ _ => Ans.no) (fun _ => Ans.no) (fun _ _ => Ans.no) Ans.no (fun _ => Ans.no) Ans.no (fun _ _ _ _ _ => Ans.no) Ans.no (fun l _ => (List.rec (motive := fun _ => Ans) (Oc.rec (k := k) (i := i + 1) (motive := fun _ => Ans) (fun run => run cx fr (⟨.tu [], e⟩ : Ce (Ve i)) h) nx) (fun _a _t _ => Ans.no) (l))) (fun _ => Ans.no) Ans.no Ans.no Ans.no (fun _ _ _ => Ans.no) (fun _ _ _ => Ans.no) (fun _ _ _ => Ans.no) (fun _ _ _ => Ans.no) (fun _ _ _ _ => Ans.no) (fun _ _ _ => Ans.no) (fun b => (Bool.rec (motive := fun _ => Ans) (Oc.rec (k := k) (i := i + 1) (motive := fun _ => Ans) (fun run => run cx fr (⟨.tu [], e⟩ : Ce (Ve i)) h) nx) ((Oc.rec (motive := fun _ => Ans) (fun run => run cx fr e h) (y))) (eqB b want))) (fun _ _ => Ans.no) (fun _ _ => Ans.no) (fun _ _ => Ans.no) (x fr e))⟩) x) (opnd k E i G (.tmp t)))) (guardT ops g))) (g))) (o.guard))
/-- Is it a copy that nobody guards? -/
def mvS (G : Gm) (o : Oper) : Option Src := match o.guard, o.op with | none, .move x | none, .assign x => opS k E G x | _, _ => none
/-- The operations of a region, in the order of the text. -/
def regS (ops : List Oper) (K : (i : Nat) → Gm → Oc k i) (l : List Oper) : (i : Nat) → Gm → Oc k i := lrec l K fun o _ ih i G => (Option.rec (motive := fun _ => Oc k i) (guarded T k E ops i G o (ih (i + 1) (dstG E o.dst (.lvl i) G))) (fun s => ih i (dstG E o.dst s G)) (mvS k E G o))
def sameP (s : Src) (p : Nat) : Bool := match s with | .fr q => Nat.beq p q | _ => false
/-- What is known goes into the frame. -/
def flushO (i : Nat) (G : Gm) : Option (Fl k i) := (lrec E.l (fun (_ : Nat) => (some ⟨fun fr _ kk => kk fr⟩ : Option (Fl k i))) (fun t _ ih p => (Option.rec (motive := fun _ => Option (Fl k i)) (ih (Nat.succ p)) (fun s => bif_ (sameP s p) (ih (Nat.succ p)) (bif_ (Nat.ble (Nat.succ p) (Nat.pow 8 k)) ((Option.rec (motive := fun _ => Option (Fl k i)) (none) (fun g => (Option.rec (motive := fun _ => Option (Fl k i)) (none) (fun f => Fl.rec (motive := fun _ => Option (Fl k i)) (fun f => Gv.rec (motive := fun _ => Option (Fl k i)) (fun g => Sc.rec (motive := fun _ => Option (Fl k i)) (fun st => some ⟨fun fr e kk => f fr e fun cur => st cur (g fr e) kk⟩) (setc k (paK k p))) g) f) (ih (Nat.succ p)))) (srcG k i s))) none)) (bif_ (Nat.ble (Nat.succ t) E.n) (G.at t) none))) : Nat → Option (Fl k i)) 0
def flush (i : Nat) (G : Gm) : Fl k i := (Option.rec (motive := fun _ => Fl k i) (⟨fun _ _ _ => Ans.no⟩) (fun f => f) (flushO k E i G))
/-- The end of a piece: on with what the context has. -/
def flK (i : Nat) (G : Gm) : Oc k i := let f := flush k E i G; ⟨fun cx fr e h => Fl.rec (motive := fun _ => Ans) (fun run => run fr e fun fr => (Cx.rec (motive := fun _ => Ans) (fun _hn n _e _g _r => n fr h) cx)) f⟩
def unitV : Ve 0 := ()
def badV (i : Nat) : Ov k i := ⟨fun _ _ _ _ => Ans.no⟩
/-- What a call gives back. -/
def resK (rs : List ResultVar) (i : Nat) (G : Gm) : List (Ov k i) := lrec rs [] fun r _ ih => (match r with
  | .tmp t => (Option.rec (motive := fun _ => Ov k i) (badV k i) (fun x => Gv.rec (motive := fun _ => Ov k i) (fun x => ⟨fun fr e _ kk => kk (x fr e)⟩) x) (opnd k E i G (.tmp t)))
  | .cell a t => (Option.rec (motive := fun _ => Ov k i) (badV k i) (fun x => Gv.rec (motive := fun _ => Ov k i) (fun x => match shp T t with | some (_, 0) => ⟨fun fr e h kk => fLoad1 (x fr e) h kk⟩ | some (s, f) => ⟨fun fr e h kk => fLoadA s f (x fr e) h kk⟩ | none => badV k i) x) (opnd k E i G (.tmp a)))) :: ih
def resG (rs : List ResultVar) (i : Nat) (G : Gm) : Oc k i :=
  let l := resK T k E rs i G
  ⟨fun cx fr e h => (List.rec (motive := fun _ => Ans) ((Cx.rec (motive := fun _ => Ans) (fun _hn _n _e _g r => r (.tu []) h) cx)) (fun g l' _ => (List.rec (motive := fun _ => Ans) ((Ov.rec (motive := fun _ => Ans) (fun run => run fr e h fun v => (Cx.rec (motive := fun _ => Ans) (fun _hn _n _e _g r => r v h) cx)) (g))) (fun _a _t _ => (lrec l (fun kk => kk []) (fun g _ ih kk => (Ov.rec (motive := fun _ => Ans) (fun run => run fr e h fun v => ih fun vs => kk (v :: vs)) (g))) : (List AV → Ans) → Ans) fun vs => (Cx.rec (motive := fun _ => Ans) (fun _hn _n _e _g r => r (.tu vs) h) cx)) (l'))) (l))⟩
def codeK {β : Type} (skip : β) (region : Nat → Array Oper → Bool → β) (seq : Code → Code → β → β → β) (cond : Operand → β → β → β) (block : Nat → β → β) (loop : β → β) (exit : Nat → β) (scope : β → β) (label : Nat → β) (goto : Nat → β) (ret : β) (bad : β) (c : Code) : β := Code.rec (motive := fun _ => β) skip region seq (fun c _ _ x y => cond c x y) (fun i _ b => block i b) (fun _ b => loop b) (fun _ _ _ _ _ _ => bad) exit (fun _ b => scope b) label goto ret (fun _ => bad) c
structure Cc where
  it : ((i : Nat) → Gm → Oc k i) → (i : Nat) → Gm → Oc k i
  lab : Nat → ((i : Nat) → Gm → Oc k i) → Option (Oc k 0)
def noLab (_ : Nat) (_ : (i : Nat) → Gm → Oc k i) : Option (Oc k 0) := none
def loopFuel : Nat := 1000000
def condC (c : Operand) (x y : Cc k) (K : (i : Nat) → Gm → Oc k i) (i : Nat) (G : Gm) : Oc k i :=
  let kn := K 0 Gm.no
  let a := x.it (flK k E) i G
  let b := y.it (flK k E) i G
  (Option.rec (motive := fun _ => Oc k i) (badO k i) (fun g => Gv.rec (motive := fun _ => Oc k i) (fun g => ⟨fun cx fr e h => (AVr Ans.no (fun _ _ => Ans.no) (fun _ => Ans.no) (fun _ _ => Ans.no) Ans.no (fun _ => Ans.no) Ans.no (fun _ _ _ _ _ => Ans.no) Ans.no (fun _ _ => Ans.no) (fun _ => Ans.no) Ans.no Ans.no Ans.no (fun _ _ _ => Ans.no) (fun _ _ _ => Ans.no) (fun _ _ _ => Ans.no) (fun _ _ _ => Ans.no) (fun _ _ _ _ => Ans.no) (fun _ _ _ => Ans.no) (fun t => (Cx.rec (motive := fun _ => Ans) (fun hn _n ee gg r => (Bool.rec (motive := fun _ => Ans) ((Oc.rec (motive := fun _ => Ans) (fun run => run ⟨hn, (fun fr h => (Oc.rec (motive := fun _ => Ans) (fun run => run cx fr unitV h) (kn))), ee, gg, r⟩ fr e h) (b))) ((Oc.rec (motive := fun _ => Ans) (fun run => run ⟨hn, (fun fr h => (Oc.rec (motive := fun _ => Ans) (fun run => run cx fr unitV h) (kn))), ee, gg, r⟩ fr e h) (a))) (t))) cx)) (fun _ _ => Ans.no) (fun _ _ => Ans.no) (fun _ _ => Ans.no) (g fr e))⟩) g) (opnd k E i G c))
def blockC (id : Nat) (x : Cc k) (K : (i : Nat) → Gm → Oc k i) (i : Nat) (G : Gm) : Oc k i :=
  let kn := K 0 Gm.no
  let a := x.it (flK k E) i G
  ⟨fun cx fr e h => (Cx.rec (motive := fun _ => Ans) (fun hn _n ee gg r => (Oc.rec (motive := fun _ => Ans) (fun run => run ⟨hn, (fun fr h => (Oc.rec (motive := fun _ => Ans) (fun run => run cx fr unitV h) (kn))), fun j fr h => (Bool.rec (motive := fun _ => Ans) (ee j fr h) ((Oc.rec (motive := fun _ => Ans) (fun run => run cx fr unitV h) (kn))) (Nat.beq j id)), gg, r⟩ fr e h) (a))) cx)⟩
def loopC (x : Cc k) (i : Nat) (G : Gm) : Oc k i :=
  let a := x.it (flK k E) 0 Gm.no
  let f := flush k E i G
  ⟨fun cx fr e h => Fl.rec (motive := fun _ => Ans) (fun run => run fr e fun fr => (Cx.rec (motive := fun _ => Ans) (fun hn _n ee gg r => (nrec loopFuel (fun _ _ => Ans.no) (fun _ self fr h => (Oc.rec (motive := fun _ => Ans) (fun run => run ⟨hn, self, ee, gg, r⟩ fr unitV h) (a))) : Tr AV k → Hp → Ans) fr h) cx)) f⟩
def scopeC (x : Cc k) (K : (i : Nat) → Gm → Oc k i) (i : Nat) (G : Gm) : Oc k i :=
  let kn := K 0 Gm.no
  let a := x.it (flK k E) i G
  ⟨fun cx fr e h => (Cx.rec (motive := fun _ => Ans) (fun hn _n ee gg r => (Oc.rec (motive := fun _ => Ans) (fun run => run ⟨hn, (fun fr h => (Oc.rec (motive := fun _ => Ans) (fun run => run cx fr unitV h) (kn))), ee, (nrec 1000 (fun _ _ _ => Ans.no) (fun _ self l fr h => (Option.rec (motive := fun _ => Ans) (gg l fr h) (fun c => (Oc.rec (motive := fun _ => Ans) (fun run => run ⟨hn, (fun fr h => (Oc.rec (motive := fun _ => Ans) (fun run => run cx fr unitV h) (kn))), ee, self, r⟩ fr unitV h) (c))) (x.lab l (flK k E)))) : Nat → Tr AV k → Hp → Ans), r⟩ fr e h) (a))) cx)⟩
def exitC (id : Nat) (i : Nat) (G : Gm) : Oc k i := let f := flush k E i G; ⟨fun cx fr e h => Fl.rec (motive := fun _ => Ans) (fun run => run fr e fun fr => (Cx.rec (motive := fun _ => Ans) (fun _hn _n ee _g _r => ee id fr h) cx)) f⟩
def gotoC (l : Nat) (i : Nat) (G : Gm) : Oc k i := let f := flush k E i G; ⟨fun cx fr e h => Fl.rec (motive := fun _ => Ans) (fun run => run fr e fun fr => (Cx.rec (motive := fun _ => Ans) (fun _hn _n _e gg _r => gg l fr h) cx)) f⟩
def comp (rs : List ResultVar) (regD : List Oper → ((i : Nat) → Gm → Oc k i) → (i : Nat) → Gm → Oc k i) (c : Code) : Cc k := codeK
  (skip := ⟨fun K => K, noLab k⟩)
  (region := fun _ ops d => ⟨bif_ d (regD ops.toList) (fun K => regS T k E ops.toList K ops.toList), noLab k⟩)
  (seq := fun _ _ x y => ⟨fun K => x.it (y.it K), fun l K => (Option.rec (motive := fun _ => Option (Oc k 0)) (y.lab l K) (fun c => some c) (x.lab l (y.it K)))⟩)
  (cond := fun c x y => ⟨condC k E c x y, noLab k⟩)
  (block := fun id x => ⟨blockC k E id x, noLab k⟩)
  (loop := fun x => ⟨fun _ => loopC k E x, noLab k⟩)
  (exit := fun id => ⟨fun _ => exitC k E id, noLab k⟩)
  (scope := fun x => ⟨scopeC k E x, noLab k⟩)
  (label := fun l => ⟨fun K => K, fun l' K => bif_ (Nat.beq l l') (some (K 0 Gm.no)) none⟩)
  (goto := fun l => ⟨fun _ => gotoC k E l, noLab k⟩)
  (ret := ⟨fun _ => resG T k E rs, noLab k⟩)
  (bad := ⟨fun _ i _ => badO k i, noLab k⟩) c
/-! ### A region that draws -/
def eqAV (v : AV) : AV → Bool := AV.rec (motive_1 := fun _ => AV → Bool) (motive_2 := fun _ => List AV → Bool) (motive_3 := fun _ => N8 (N8 (N8 AV)) → Bool) (motive_4 := fun _ => N8 (N8 AV) → Bool) (motive_5 := fun _ => N8 AV → Bool) (fun w => (AVr (true) (fun _ _ => false) (fun _ => false) (fun _ _ => false) false (fun _ => false) false (fun _ _ _ _ _ => false) false (fun _ _ => false) (fun _ => false) false false false (fun _ _ _ => false) (fun _ _ _ => false) (fun _ _ _ => false) (fun _ _ _ => false) (fun _ _ _ _ => false) (fun _ _ _ => false) (fun _ => false) (fun _ _ => false) (fun _ _ => false) (fun _ _ => false) (w))) (fun x0 x1 w => (AVr false (fun y0 y1 => (and_ (Nat.beq x0 y0) (Nat.beq x1 y1))) (fun _ => false) (fun _ _ => false) false (fun _ => false) false (fun _ _ _ _ _ => false) false (fun _ _ => false) (fun _ => false) false false false (fun _ _ _ => false) (fun _ _ _ => false) (fun _ _ _ => false) (fun _ _ _ => false) (fun _ _ _ _ => false) (fun _ _ _ => false) (fun _ => false) (fun _ _ => false) (fun _ _ => false) (fun _ _ => false) (w))) (fun x0 w => (AVr false (fun _ _ => false) (fun y0 => (eqI x0 y0)) (fun _ _ => false) false (fun _ => false) false (fun _ _ _ _ _ => false) false (fun _ _ => false) (fun _ => false) false false false (fun _ _ _ => false) (fun _ _ _ => false) (fun _ _ _ => false) (fun _ _ _ => false) (fun _ _ _ _ => false) (fun _ _ _ => false) (fun _ => false) (fun _ _ => false) (fun _ _ => false) (fun _ _ => false) (w))) (fun x0 x1 w => (AVr false (fun _ _ => false) (fun _ => false) (fun y0 y1 => (and_ (eqI x0 y0) (eqI x1 y1))) false (fun _ => false) false (fun _ _ _ _ _ => false) false (fun _ _ => false) (fun _ => false) false false false (fun _ _ _ => false) (fun _ _ _ => false) (fun _ _ _ => false) (fun _ _ _ => false) (fun _ _ _ _ => false) (fun _ _ _ => false) (fun _ => false) (fun _ _ => false) (fun _ _ => false) (fun _ _ => false) (w))) (fun w => (AVr false (fun _ _ => false) (fun _ => false) (fun _ _ => false) (true) (fun _ => false) false (fun _ _ _ _ _ => false) false (fun _ _ => false) (fun _ => false) false false false (fun _ _ _ => false) (fun _ _ _ => false) (fun _ _ _ => false) (fun _ _ _ => false) (fun _ _ _ _ => false) (fun _ _ _ => false) (fun _ => false) (fun _ _ => false) (fun _ _ => false) (fun _ _ => false) (w))) (fun x0 w => (AVr false (fun _ _ => false) (fun _ => false) (fun _ _ => false) false (fun y0 => (Nm.beq x0 y0)) false (fun _ _ _ _ _ => false) false (fun _ _ => false) (fun _ => false) false false false (fun _ _ _ => false) (fun _ _ _ => false) (fun _ _ _ => false) (fun _ _ _ => false) (fun _ _ _ _ => false) (fun _ _ _ => false) (fun _ => false) (fun _ _ => false) (fun _ _ => false) (fun _ _ => false) (w))) (fun w => (AVr false (fun _ _ => false) (fun _ => false) (fun _ _ => false) false (fun _ => false) (true) (fun _ _ _ _ _ => false) false (fun _ _ => false) (fun _ => false) false false false (fun _ _ _ => false) (fun _ _ _ => false) (fun _ _ _ => false) (fun _ _ _ => false) (fun _ _ _ _ => false) (fun _ _ _ => false) (fun _ => false) (fun _ _ => false) (fun _ _ => false) (fun _ _ => false) (w))) (fun x0 x1 x2 ih1 ih2 w => (AVr false (fun _ _ => false) (fun _ => false) (fun _ _ => false) false (fun _ => false) false (fun y0 y1 y2 _ _ => (and_ (Nat.beq x0 y0) (and_ (ih1 y1) (ih2 y2)))) false (fun _ _ => false) (fun _ => false) false false false (fun _ _ _ => false) (fun _ _ _ => false) (fun _ _ _ => false) (fun _ _ _ => false) (fun _ _ _ _ => false) (fun _ _ _ => false) (fun _ => false) (fun _ _ => false) (fun _ _ => false) (fun _ _ => false) (w))) (fun w => (AVr false (fun _ _ => false) (fun _ => false) (fun _ _ => false) false (fun _ => false) false (fun _ _ _ _ _ => false) (true) (fun _ _ => false) (fun _ => false) false false false (fun _ _ _ => false) (fun _ _ _ => false) (fun _ _ _ => false) (fun _ _ _ => false) (fun _ _ _ _ => false) (fun _ _ _ => false) (fun _ => false) (fun _ _ => false) (fun _ _ => false) (fun _ _ => false) (w))) (fun x0 ih0 w => (AVr false (fun _ _ => false) (fun _ => false) (fun _ _ => false) false (fun _ => false) false (fun _ _ _ _ _ => false) false (fun y0 _ => (ih0 y0)) (fun _ => false) false false false (fun _ _ _ => false) (fun _ _ _ => false) (fun _ _ _ => false) (fun _ _ _ => false) (fun _ _ _ _ => false) (fun _ _ _ => false) (fun _ => false) (fun _ _ => false) (fun _ _ => false) (fun _ _ => false) (w))) (fun x0 w => (AVr false (fun _ _ => false) (fun _ => false) (fun _ _ => false) false (fun _ => false) false (fun _ _ _ _ _ => false) false (fun _ _ => false) (fun y0 => (eqL x0 y0)) false false false (fun _ _ _ => false) (fun _ _ _ => false) (fun _ _ _ => false) (fun _ _ _ => false) (fun _ _ _ _ => false) (fun _ _ _ => false) (fun _ => false) (fun _ _ => false) (fun _ _ => false) (fun _ _ => false) (w))) (fun w => (AVr false (fun _ _ => false) (fun _ => false) (fun _ _ => false) false (fun _ => false) false (fun _ _ _ _ _ => false) false (fun _ _ => false) (fun _ => false) (true) false false (fun _ _ _ => false) (fun _ _ _ => false) (fun _ _ _ => false) (fun _ _ _ => false) (fun _ _ _ _ => false) (fun _ _ _ => false) (fun _ => false) (fun _ _ => false) (fun _ _ => false) (fun _ _ => false) (w))) (fun w => (AVr false (fun _ _ => false) (fun _ => false) (fun _ _ => false) false (fun _ => false) false (fun _ _ _ _ _ => false) false (fun _ _ => false) (fun _ => false) false (true) false (fun _ _ _ => false) (fun _ _ _ => false) (fun _ _ _ => false) (fun _ _ _ => false) (fun _ _ _ _ => false) (fun _ _ _ => false) (fun _ => false) (fun _ _ => false) (fun _ _ => false) (fun _ _ => false) (w))) (fun w => (AVr false (fun _ _ => false) (fun _ => false) (fun _ _ => false) false (fun _ => false) false (fun _ _ _ _ _ => false) false (fun _ _ => false) (fun _ => false) false false (true) (fun _ _ _ => false) (fun _ _ _ => false) (fun _ _ _ => false) (fun _ _ _ => false) (fun _ _ _ _ => false) (fun _ _ _ => false) (fun _ => false) (fun _ _ => false) (fun _ _ => false) (fun _ _ => false) (w))) (fun x0 x1 ih1 w => (AVr false (fun _ _ => false) (fun _ => false) (fun _ _ => false) false (fun _ => false) false (fun _ _ _ _ _ => false) false (fun _ _ => false) (fun _ => false) false false false (fun y0 y1 _ => (and_ (Nat.beq x0 y0) (ih1 y1))) (fun _ _ _ => false) (fun _ _ _ => false) (fun _ _ _ => false) (fun _ _ _ _ => false) (fun _ _ _ => false) (fun _ => false) (fun _ _ => false) (fun _ _ => false) (fun _ _ => false) (w))) (fun x0 x1 ih1 w => (AVr false (fun _ _ => false) (fun _ => false) (fun _ _ => false) false (fun _ => false) false (fun _ _ _ _ _ => false) false (fun _ _ => false) (fun _ => false) false false false (fun _ _ _ => false) (fun y0 y1 _ => (and_ (Nat.beq x0 y0) (ih1 y1))) (fun _ _ _ => false) (fun _ _ _ => false) (fun _ _ _ _ => false) (fun _ _ _ => false) (fun _ => false) (fun _ _ => false) (fun _ _ => false) (fun _ _ => false) (w))) (fun x0 x1 ih1 w => (AVr false (fun _ _ => false) (fun _ => false) (fun _ _ => false) false (fun _ => false) false (fun _ _ _ _ _ => false) false (fun _ _ => false) (fun _ => false) false false false (fun _ _ _ => false) (fun _ _ _ => false) (fun y0 y1 _ => (and_ (Nat.beq x0 y0) (ih1 y1))) (fun _ _ _ => false) (fun _ _ _ _ => false) (fun _ _ _ => false) (fun _ => false) (fun _ _ => false) (fun _ _ => false) (fun _ _ => false) (w))) (fun x0 x1 x2 w => (AVr false (fun _ _ => false) (fun _ => false) (fun _ _ => false) false (fun _ => false) false (fun _ _ _ _ _ => false) false (fun _ _ => false) (fun _ => false) false false false (fun _ _ _ => false) (fun _ _ _ => false) (fun _ _ _ => false) (fun y0 y1 y2 => (and_ (Nm.beq x0 y0) (and_ (Nat.beq x1 y1) (Nat.beq x2 y2)))) (fun _ _ _ _ => false) (fun _ _ _ => false) (fun _ => false) (fun _ _ => false) (fun _ _ => false) (fun _ _ => false) (w))) (fun x0 x1 x2 x3 w => (AVr false (fun _ _ => false) (fun _ => false) (fun _ _ => false) false (fun _ => false) false (fun _ _ _ _ _ => false) false (fun _ _ => false) (fun _ => false) false false false (fun _ _ _ => false) (fun _ _ _ => false) (fun _ _ _ => false) (fun _ _ _ => false) (fun y0 y1 y2 y3 => (and_ (Nm.beq x0 y0) (and_ (Nat.beq x1 y1) (and_ (Nat.beq x2 y2) (Nat.beq x3 y3))))) (fun _ _ _ => false) (fun _ => false) (fun _ _ => false) (fun _ _ => false) (fun _ _ => false) (w))) (fun x0 x1 ih1 w => (AVr false (fun _ _ => false) (fun _ => false) (fun _ _ => false) false (fun _ => false) false (fun _ _ _ _ _ => false) false (fun _ _ => false) (fun _ => false) false false false (fun _ _ _ => false) (fun _ _ _ => false) (fun _ _ _ => false) (fun _ _ _ => false) (fun _ _ _ _ => false) (fun y0 y1 _ => (and_ (Nat.beq x0 y0) (ih1 y1))) (fun _ => false) (fun _ _ => false) (fun _ _ => false) (fun _ _ => false) (w))) (fun x0 w => (AVr false (fun _ _ => false) (fun _ => false) (fun _ _ => false) false (fun _ => false) false (fun _ _ _ _ _ => false) false (fun _ _ => false) (fun _ => false) false false false (fun _ _ _ => false) (fun _ _ _ => false) (fun _ _ _ => false) (fun _ _ _ => false) (fun _ _ _ _ => false) (fun _ _ _ => false) (fun y0 => (eqB x0 y0)) (fun _ _ => false) (fun _ _ => false) (fun _ _ => false) (w))) (fun x0 x1 w => (AVr false (fun _ _ => false) (fun _ => false) (fun _ _ => false) false (fun _ => false) false (fun _ _ _ _ _ => false) false (fun _ _ => false) (fun _ => false) false false false (fun _ _ _ => false) (fun _ _ _ => false) (fun _ _ _ => false) (fun _ _ _ => false) (fun _ _ _ _ => false) (fun _ _ _ => false) (fun _ => false) (fun y0 y1 => (and_ (Nm.beq x0 y0) (Nat.beq x1 y1))) (fun _ _ => false) (fun _ _ => false) (w))) (fun x0 x1 w => (AVr false (fun _ _ => false) (fun _ => false) (fun _ _ => false) false (fun _ => false) false (fun _ _ _ _ _ => false) false (fun _ _ => false) (fun _ => false) false false false (fun _ _ _ => false) (fun _ _ _ => false) (fun _ _ _ => false) (fun _ _ _ => false) (fun _ _ _ _ => false) (fun _ _ _ => false) (fun _ => false) (fun _ _ => false) (fun y0 y1 => (and_ (Nat.beq x0 y0) (Nat.beq x1 y1))) (fun _ _ => false) (w))) (fun x0 x1 w => (AVr false (fun _ _ => false) (fun _ => false) (fun _ _ => false) false (fun _ => false) false (fun _ _ _ _ _ => false) false (fun _ _ => false) (fun _ => false) false false false (fun _ _ _ => false) (fun _ _ _ => false) (fun _ _ _ => false) (fun _ _ _ => false) (fun _ _ _ _ => false) (fun _ _ _ => false) (fun _ => false) (fun _ _ => false) (fun _ _ => false) (fun y0 y1 => (and_ (Nat.beq x0 y0) (eqE x1 y1))) (w))) (fun m => (List.rec (motive := fun _ => Bool) (true) (fun _a _t _ => false) (m))) (fun _ _ h t m => (List.rec (motive := fun _ => Bool) (false) (fun d m _ => and_ (h d) (t m)) (m))) (fun a0 a1 a2 a3 a4 a5 a6 a7 h0 h1 h2 h3 h4 h5 h6 h7 w => N8.rec (motive := fun _ => Bool) (fun b0 b1 b2 b3 b4 b5 b6 b7 => and_ (and_ (and_ (h0 b0) (h1 b1)) (and_ (h2 b2) (h3 b3))) (and_ (and_ (h4 b4) (h5 b5)) (and_ (h6 b6) (h7 b7)))) w) (fun a0 a1 a2 a3 a4 a5 a6 a7 h0 h1 h2 h3 h4 h5 h6 h7 w => N8.rec (motive := fun _ => Bool) (fun b0 b1 b2 b3 b4 b5 b6 b7 => and_ (and_ (and_ (h0 b0) (h1 b1)) (and_ (h2 b2) (h3 b3))) (and_ (and_ (h4 b4) (h5 b5)) (and_ (h6 b6) (h7 b7)))) w) (fun a0 a1 a2 a3 a4 a5 a6 a7 h0 h1 h2 h3 h4 h5 h6 h7 w => N8.rec (motive := fun _ => Bool) (fun b0 b1 b2 b3 b4 b5 b6 b7 => and_ (and_ (and_ (h0 b0) (h1 b1)) (and_ (h2 b2) (h3 b3))) (and_ (and_ (h4 b4) (h5 b5)) (and_ (h6 b6) (h7 b7)))) w) v
/-- Of what kind: 0: of its operands alone; 1: it reads; 2: it does something; 3: it lays a block. -/
def kindOf (f : OpF) : Nat := match f with
  | .mv _ | .p1 _ _ | .p2 _ _ _ | .p3 _ _ _ _ | .pl _ _ => 0
  | .l1 _ _ | .l2 _ _ _ => 1
  | .al _ _ => 3
  | _ => 2
structure Pl where
  o : Oper
  f : OpF
  i : Nat
  bef : Nat
  kind : Nat
  see : List Nat
def bit (m i : Nat) : Bool := Nat.beq (Nat.land (Nat.shiftRight m i) 1) 1
/-- What an operation looks at. -/
def fOps (f : OpF) : List Operand := match f with
  | .bad => []
  | .mv x | .p1 _ x | .l1 _ x | .w1 _ x => [x]
  | .p2 _ x y | .l2 _ x y | .w2 _ x y => [x, y]
  | .p3 _ x y z | .w3 _ x y z => [x, y, z]
  | .pl _ xs | .al _ xs | .cf _ xs => xs
  | .cv g xs => g :: xs
def seesOf (ops : List Oper) (o : Oper) (f : OpF) : List Nat := (match o.guard with | some (g, _) => (guardT ops g).toList | none => []) ++ (fOps f).filterMap fun | .tmp t => some t | _ => none
def befs (l : List Pl) (o : Oper) : Nat := o.after.toList.foldl (fun s e => bif_ (Region.binds .any e) (Nat.lor s (Nat.lor (Nat.shiftLeft 1 e.on) (((l[e.on]?).map (·.bef)).getD 0))) s) 0
def plans (ops : List Oper) (l : List Oper) : List Pl → List Pl := lrec l (fun acc => acc) fun o _ ih acc => let f := opF T o.op; ih (acc ++ [⟨o, f, acc.length, befs acc o, kindOf f, seesOf ops o f⟩])
def dstIn (d : Option Nat) (l : List Nat) : Bool := match d with | none => false | some d => l.contains d
def clash (x y : Pl) : Bool := or_ (or_ (dstIn x.o.dst (y.o.dst.toList ++ y.see)) (dstIn y.o.dst x.see)) (and_ (Nat.beq x.kind 2) (Nat.beq y.kind 2))
def plOk (l : List Pl) : Bool := l.all fun y => and_ (y.o.after.toList.all fun e => or_ (not_ (Region.binds .any e)) (Nat.ble (Nat.succ e.on) y.i)) (l.all fun x => or_ (Nat.ble y.i x.i) (or_ (not_ (clash x y)) (bit y.bef x.i)))
/-- How many that do something stand ahead of an operation in the text; how many of these may come behind it; how many behind it in the text may come ahead of it. -/
def aheadN (l : List Pl) (y : Pl) : Nat := (l.filter fun x => and_ (Nat.beq x.kind 2) (Nat.ble (Nat.succ x.i) y.i)).length
def lateN (l : List Pl) (y : Pl) : Nat := (l.filter fun x => and_ (and_ (Nat.beq x.kind 2) (Nat.ble (Nat.succ x.i) y.i)) (not_ (bit y.bef x.i))).length
def earlyN (l : List Pl) (y : Pl) : Nat := (l.filter fun x => and_ (and_ (Nat.beq x.kind 2) (Nat.ble (Nat.succ y.i) x.i)) (not_ (bit x.bef y.i))).length
def laysN (l : List Pl) (i : Nat) : Nat := (l.filter fun x => and_ (Nat.beq x.kind 3) (Nat.ble (Nat.succ x.i) i)).length
structure Ck where
  lo : Nat
  cnt : Nat
  run : Hp → (Unit → Ans) → Ans
structure La where
  r : Nat
  nm : Nm
  b : Blk
structure Od (k i : Nat) where
  run : Cx k → Tr AV k → Ve i → Hp → List Hp → List Ck → List La → List Nm → Ans
def verK (hs : List Hp) (run : Hp → (Unit → Ans) → Ans) (ok : Unit → Ans) : Nat → Nat → Ans := lrec hs (fun _ cnt => (Nat.rec (motive := fun _ => Ans) (ok ()) (fun _c _ => Ans.no) (cnt))) (fun h _ ih lo cnt => (Nat.rec (motive := fun _ => Ans) ((Nat.rec (motive := fun _ => Ans) (ok ()) (fun cnt _ => run h fun _ => ih 0 cnt) (cnt))) (fun lo _ => ih lo cnt) (lo)))
def chksK (hs : List Hp) (l : List Ck) : (Unit → Ans) → Ans := lrec l (fun ok => ok ()) fun c _ ih ok => Ck.rec (motive := fun _ => Ans) (fun lo cnt run => verK hs run (fun _ => ih ok) lo cnt) c
def layK (mask : Nat) (l : List La) : Hp → (Hp → List La → Ans) → Ans := lrec l (fun h g => g h []) fun x _ ih h g => La.rec (motive := fun _ => Ans) (fun r nm b => (Bool.rec (motive := fun _ => Ans) (ih h fun h l => g h (x :: l)) (h.put nm b fun h => ih h g) (bit mask r))) x
def layAll (l : List La) : Hp → (Hp → Ans) → Ans := lrec l (fun h g => g h) fun x _ ih h g => La.rec (motive := fun _ => Ans) (fun r nm b => h.put nm b fun h => ih h g) x
def badD (i : Nat) : Od k i := ⟨fun _ _ _ _ _ _ _ _ => Ans.no⟩
def nodeD (l : List Pl) (y : Pl) (i : Nat) (G : Gm) (nx : Od k (i + 1)) : Od k i :=
  let v := aheadN l y
  let a := lateN l y
  let b := earlyN l y
  let m := laysN l y.i
  match y.f with
  | .bad => badD k i
  | .mv x => (Option.rec (motive := fun _ => Od k i) (badD k i) (fun x => Gv.rec (motive := fun _ => Od k i) (fun x => ⟨fun cx fr e h hs cs ls ns => (fun v => Od.rec (k := k) (i := i + 1) (motive := fun _ => Ans) (fun run => run cx fr (⟨v, e⟩ : Ce (Ve i)) h hs cs ls ns) nx) (x fr e)⟩) x) (opnd k E i G x))
  | .p1 F x => (Option.rec (motive := fun _ => Od k i) (badD k i) (fun x => Gv.rec (motive := fun _ => Od k i) (fun x => ⟨fun cx fr e h hs cs ls ns => F (x fr e) fun v => Od.rec (k := k) (i := i + 1) (motive := fun _ => Ans) (fun run => run cx fr (⟨v, e⟩ : Ce (Ve i)) h hs cs ls ns) nx⟩) x) (opnd k E i G x))
  | .p2 F x y => (Option.rec (motive := fun _ => Od k i) (badD k i) (fun x => Gv.rec (motive := fun _ => Od k i) (fun x => (Option.rec (motive := fun _ => Od k i) (badD k i) (fun y => Gv.rec (motive := fun _ => Od k i) (fun y => ⟨fun cx fr e h hs cs ls ns => F (x fr e) (y fr e) fun v => Od.rec (k := k) (i := i + 1) (motive := fun _ => Ans) (fun run => run cx fr (⟨v, e⟩ : Ce (Ve i)) h hs cs ls ns) nx⟩) y) (opnd k E i G y))) x) (opnd k E i G x))
  | .p3 F x y z => (Option.rec (motive := fun _ => Od k i) (badD k i) (fun x => Gv.rec (motive := fun _ => Od k i) (fun x => (Option.rec (motive := fun _ => Od k i) (badD k i) (fun y => Gv.rec (motive := fun _ => Od k i) (fun y => (Option.rec (motive := fun _ => Od k i) (badD k i) (fun z => Gv.rec (motive := fun _ => Od k i) (fun z => ⟨fun cx fr e h hs cs ls ns => F (x fr e) (y fr e) (z fr e) fun v => Od.rec (k := k) (i := i + 1) (motive := fun _ => Ans) (fun run => run cx fr (⟨v, e⟩ : Ce (Ve i)) h hs cs ls ns) nx⟩) z) (opnd k E i G z))) y) (opnd k E i G y))) x) (opnd k E i G x))
  | .pl F xs => (Option.rec (motive := fun _ => Od k i) (badD k i) (fun xs => Gl.rec (motive := fun _ => Od k i) (fun xs => ⟨fun cx fr e h hs cs ls ns => F (xs fr e) fun v => Od.rec (k := k) (i := i + 1) (motive := fun _ => Ans) (fun run => run cx fr (⟨v, e⟩ : Ce (Ve i)) h hs cs ls ns) nx⟩) xs) (opnds k E i G xs))
  | .l1 F x => bif_ (Nat.beq (Nat.add a b) 0) ((Option.rec (motive := fun _ => Od k i) (badD k i) (fun x => Gv.rec (motive := fun _ => Od k i) (fun x => ⟨fun cx fr e h hs cs ls ns => F (x fr e) h fun v => Od.rec (k := k) (i := i + 1) (motive := fun _ => Ans) (fun run => run cx fr (⟨v, e⟩ : Ce (Ve i)) h hs cs ls ns) nx⟩) x) (opnd k E i G x))) ((Option.rec (motive := fun _ => Od k i) (badD k i) (fun x => Gv.rec (motive := fun _ => Od k i) (fun x => ⟨fun cx fr e h hs cs ls ns => F (x fr e) h fun w => Od.rec (k := k) (i := i + 1) (motive := fun _ => Ans) (fun run => run cx fr (⟨w, e⟩ : Ce (Ve i)) h hs (⟨Nat.sub v a, Nat.succ (Nat.add a b), fun h ok => F (x fr e) h fun w' => (Bool.rec (motive := fun _ => Ans) (Ans.no) (ok ()) (eqAV w w'))⟩ :: cs) ls ns) nx⟩) x) (opnd k E i G x)))
  | .l2 F x y => bif_ (Nat.beq (Nat.add a b) 0) ((Option.rec (motive := fun _ => Od k i) (badD k i) (fun x => Gv.rec (motive := fun _ => Od k i) (fun x => (Option.rec (motive := fun _ => Od k i) (badD k i) (fun y => Gv.rec (motive := fun _ => Od k i) (fun y => ⟨fun cx fr e h hs cs ls ns => F (x fr e) (y fr e) h fun v => Od.rec (k := k) (i := i + 1) (motive := fun _ => Ans) (fun run => run cx fr (⟨v, e⟩ : Ce (Ve i)) h hs cs ls ns) nx⟩) y) (opnd k E i G y))) x) (opnd k E i G x))) ((Option.rec (motive := fun _ => Od k i) (badD k i) (fun x => Gv.rec (motive := fun _ => Od k i) (fun x => (Option.rec (motive := fun _ => Od k i) (badD k i) (fun y => Gv.rec (motive := fun _ => Od k i) (fun y => ⟨fun cx fr e h hs cs ls ns => F (x fr e) (y fr e) h fun w => Od.rec (k := k) (i := i + 1) (motive := fun _ => Ans) (fun run => run cx fr (⟨w, e⟩ : Ce (Ve i)) h hs (⟨Nat.sub v a, Nat.succ (Nat.add a b), fun h ok => F (x fr e) (y fr e) h fun w' => (Bool.rec (motive := fun _ => Ans) (Ans.no) (ok ()) (eqAV w w'))⟩ :: cs) ls ns) nx⟩) y) (opnd k E i G y))) x) (opnd k E i G x)))
  | .al F xs => (Option.rec (motive := fun _ => Od k i) (badD k i) (fun xs => Gl.rec (motive := fun _ => Od k i) (fun xs => ⟨fun cx fr e h hs cs ls ns => lgetK ns m fun nm => F (xs fr e) nm fun v b => Od.rec (k := k) (i := i + 1) (motive := fun _ => Ans) (fun run => run cx fr (⟨v, e⟩ : Ce (Ve i)) h hs cs (⟨y.i, nm, b⟩ :: ls) ns) nx⟩) xs) (opnds k E i G xs))
  | .w1 F x => (Option.rec (motive := fun _ => Od k i) (badD k i) (fun x => Gv.rec (motive := fun _ => Od k i) (fun x => ⟨fun cx fr e h hs cs ls ns => layK y.bef ls h fun h1 ls => F (x fr e) h1 fun v h2 => Od.rec (k := k) (i := i + 1) (motive := fun _ => Ans) (fun run => run cx fr (⟨v, e⟩ : Ce (Ve i)) h2 (h :: hs) cs ls ns) nx⟩) x) (opnd k E i G x))
  | .w2 F x z => (Option.rec (motive := fun _ => Od k i) (badD k i) (fun x => Gv.rec (motive := fun _ => Od k i) (fun x => (Option.rec (motive := fun _ => Od k i) (badD k i) (fun z => Gv.rec (motive := fun _ => Od k i) (fun z => ⟨fun cx fr e h hs cs ls ns => layK y.bef ls h fun h1 ls => F (x fr e) (z fr e) h1 fun v h2 => Od.rec (k := k) (i := i + 1) (motive := fun _ => Ans) (fun run => run cx fr (⟨v, e⟩ : Ce (Ve i)) h2 (h :: hs) cs ls ns) nx⟩) z) (opnd k E i G z))) x) (opnd k E i G x))
  | .w3 F x z u => (Option.rec (motive := fun _ => Od k i) (badD k i) (fun x => Gv.rec (motive := fun _ => Od k i) (fun x => (Option.rec (motive := fun _ => Od k i) (badD k i) (fun z => Gv.rec (motive := fun _ => Od k i) (fun z => (Option.rec (motive := fun _ => Od k i) (badD k i) (fun u => Gv.rec (motive := fun _ => Od k i) (fun u => ⟨fun cx fr e h hs cs ls ns => layK y.bef ls h fun h1 ls => F (x fr e) (z fr e) (u fr e) h1 fun v h2 => Od.rec (k := k) (i := i + 1) (motive := fun _ => Ans) (fun run => run cx fr (⟨v, e⟩ : Ce (Ve i)) h2 (h :: hs) cs ls ns) nx⟩) u) (opnd k E i G u))) z) (opnd k E i G z))) x) (opnd k E i G x))
  | .cf f xs => (Option.rec (motive := fun _ => Od k i) (badD k i) (fun xs => Gl.rec (motive := fun _ => Od k i) (fun xs => ⟨fun cx fr e h hs cs ls ns => layK y.bef ls h fun h1 ls => (Cx.rec (motive := fun _ => Ans) (fun hn _n _e _g _r => H.rec (motive := fun _ => Ans) (fun run => run (f) (xs fr e) h1 (fun v h2 => Od.rec (k := k) (i := i + 1) (motive := fun _ => Ans) (fun run => run cx fr (⟨v, e⟩ : Ce (Ve i)) h2 (h :: hs) cs ls ns) nx)) hn) cx)⟩) xs) (opnds k E i G xs))
  | .cv g xs => (Option.rec (motive := fun _ => Od k i) (badD k i) (fun g => Gv.rec (motive := fun _ => Od k i) (fun g => (Option.rec (motive := fun _ => Od k i) (badD k i) (fun xs => Gl.rec (motive := fun _ => Od k i) (fun xs => ⟨fun cx fr e h hs cs ls ns => layK y.bef ls h fun h1 ls => (AVr Ans.no (fun _ _ => Ans.no) (fun _ => Ans.no) (fun _ _ => Ans.no) Ans.no (fun _ => Ans.no) Ans.no (fun f a b _ _ => (Cx.rec (motive := fun _ => Ans) (fun hn _n _e _g _r => H.rec (motive := fun _ => Ans) (fun run => run (f) (lapp a (lapp (xs fr e) b)) h1 (fun v h2 => Od.rec (k := k) (i := i + 1) (motive := fun _ => Ans) (fun run => run cx fr (⟨v, e⟩ : Ce (Ve i)) h2 (h :: hs) cs ls ns) nx)) hn) cx)) Ans.no (fun _ _ => Ans.no) (fun _ => Ans.no) Ans.no Ans.no Ans.no (fun _ _ _ => Ans.no) (fun _ _ _ => Ans.no) (fun _ _ _ => Ans.no) (fun _ _ _ => Ans.no) (fun _ _ _ _ => Ans.no) (fun _ _ _ => Ans.no) (fun _ => Ans.no) (fun _ _ => Ans.no) (fun _ _ => Ans.no) (fun _ _ => Ans.no) (g fr e))⟩) xs) (opnds k E i G xs))) g) (opnd k E i G g))
/-- An operation that its guard leaves out. -/
def skipD (y : Pl) (i : Nat) (nx : Od k (i + 1)) : Od k i := bif_ (Nat.beq y.kind 2) ⟨fun cx fr e h hs cs ls ns => Od.rec (k := k) (i := i + 1) (motive := fun _ => Ans) (fun run => run cx fr (⟨.tu [], e⟩ : Ce (Ve i)) h (h :: hs) cs ls ns) nx⟩ ⟨fun cx fr e h hs cs ls ns => Od.rec (k := k) (i := i + 1) (motive := fun _ => Ans) (fun run => run cx fr (⟨.tu [], e⟩ : Ce (Ve i)) h hs cs ls ns) nx⟩
def guardedD (ops : List Oper) (l : List Pl) (y : Pl) (i : Nat) (G : Gm) (nx : Od k (i + 1)) : Od k i := (Option.rec (motive := fun _ => Od k i) (nodeD k E l y i G nx) (fun g => (Prod.rec (motive := fun _ => Od k i) (fun g want => (Option.rec (motive := fun _ => Od k i) (skipD k y i nx) (fun t => let z := nodeD k E l y i G nx; let s := skipD k y i nx; (Option.rec (motive := fun _ => Od k i) (badD k i) (fun x => Gv.rec (motive := fun _ => Od k i) (fun x => ⟨fun cx fr e h hs cs ls ns => (AVr Ans.no (fun _ _ => Ans.no) (fun _ => Ans.no) (fun _ _ => Ans.no) Ans.no (fun _ => Ans.no) Ans.no (fun _ _ _ _ _ => Ans.no) Ans.no (fun l _ => (List.rec (motive := fun _ => Ans) ((Od.rec (motive := fun _ => Ans) (fun run => run cx fr e h hs cs ls ns) (s))) (fun _a _t _ => Ans.no) (l))) (fun _ => Ans.no) Ans.no Ans.no Ans.no (fun _ _ _ => Ans.no) (fun _ _ _ => Ans.no) (fun _ _ _ => Ans.no) (fun _ _ _ => Ans.no) (fun _ _ _ _ => Ans.no) (fun _ _ _ => Ans.no) (fun b => (Bool.rec (motive := fun _ => Ans) ((Od.rec (motive := fun _ => Ans) (fun run => run cx fr e h hs cs ls ns) (s))) ((Od.rec (motive := fun _ => Ans) (fun run => run cx fr e h hs cs ls ns) (z))) (eqB b want))) (fun _ _ => Ans.no) (fun _ _ => Ans.no) (fun _ _ => Ans.no) (x fr e))⟩) x) (opnd k E i G (.tmp t)))) (guardT ops g))) (g))) (y.o.guard))
def endD (K : (i : Nat) → Gm → Oc k i) (i : Nat) (G : Gm) : Od k i :=
  let kn := K i G
  ⟨fun cx fr e h hs cs ls _ => (List.rec (motive := fun _ => Ans) (layAll ls h fun h => (Oc.rec (motive := fun _ => Ans) (fun run => run cx fr e h) (kn))) (fun _a _t _ => chksK ((lrec (h :: hs) (fun acc => acc) (fun x _ ih acc => ih (x :: acc)) : List Hp → List Hp) []) cs fun _ => layAll ls h fun h => (Oc.rec (motive := fun _ => Ans) (fun run => run cx fr e h) (kn))) (cs))⟩
/-- So many new names. -/
def namesK (n : Nat) : Nm → (List Nm → Nm → Ans) → Ans := nrec n (fun c g => g [] c) fun _ ih c g => Nm.nxt c fun c' => ih c' fun l c'' => g (c :: l) c''
def regD (ops : List Oper) (K : (i : Nat) → Gm → Oc k i) (i : Nat) (G : Gm) : Oc k i :=
  let l := plans T ops ops []
  let m := (l.filter fun x => Nat.beq x.kind 3).length
  let od := (lrec l (endD k K) fun y _ ih i G => (Option.rec (motive := fun _ => Od k i) (guardedD k E ops l y i G (ih (i + 1) (dstG E y.o.dst (.lvl i) G))) (fun s => ih i (dstG E y.o.dst s G)) (mvS k E G y.o)) : (i : Nat) → Gm → Od k i) i G
  bif_ (plOk l) ⟨fun cx fr e h => (Hp.rec (motive := fun _ => Ans) (fun m_ c_ => namesK m c_ fun ns c' => (Od.rec (motive := fun _ => Ans) (fun run => run cx fr e ⟨m_, c'⟩ [] [] [] ns) (od))) h)⟩ (badO k i)
/-! ### The same, reckoned with fewer steps -/
def natO {β : Type} (n : Nat) (f : Nat → β) : β := Nat.rec (motive := fun _ => β) (f 0) (fun m _ => f (Nat.succ m)) n
def befAt (acc : List Pl) : Nat → Nat := lrec acc (fun _ => 0) (fun y _ ih j => Nat.rec (motive := fun _ => Nat) y.bef (fun j _ => ih j) j)
def befsR (acc : List Pl) (n : Nat) (o : Oper) : Nat := (lrec o.after.toList (fun s => s) (fun e _ ih s => ih (bif_ (Region.binds .any e) (Nat.lor s (Nat.lor (Nat.shiftLeft 1 e.on) (bif_ (Nat.ble (Nat.succ e.on) n) (befAt acc (Nat.sub (Nat.sub n 1) e.on)) 0))) s)) : Nat → Nat) 0
def plansF (ops : List Oper) (l : List Oper) : List Pl → Nat → List Pl := lrec l (fun acc _ => (lrec acc (fun r => r) (fun y _ ih r => ih (y :: r)) : List Pl → List Pl) []) fun o _ ih acc n => let f := opF T o.op; natO (befsR acc n o) fun b => natO (kindOf f) fun q => natO (Nat.succ n) fun n' => ih (⟨o, f, n, b, q, seesOf ops o f⟩ :: acc) n'
def inM (s b : Nat) : Bool := Nat.beq (Nat.land s b) s
def sliceM (W D t : Nat) : Nat := Nat.land (Nat.shiftRight D (Nat.mul W t)) (Nat.sub (Nat.pow 2 W) 1)
def afterOk (i : Nat) (l : List Edge) : Bool := lrec l true fun e _ ih => and_ (or_ (not_ (Region.binds .any e)) (Nat.ble (Nat.succ e.on) i)) ih
/-- The cut's order is the text's wherever it matters, by masks: who lays a slot, who looks at it, who does something. -/
def okF (W : Nat) (l : List Pl) : Nat → Nat → Nat → Bool := lrec l (fun _ _ _ => true) fun y _ ih D S Q => and_ (Nat.ble (Nat.succ y.i) W) (and_ (afterOk y.i y.o.after.toList) (and_ (bif_ (Nat.beq y.kind 2) (inM Q y.bef) true) (and_ (lrec y.see true fun t _ r => and_ (inM (sliceM W D t) y.bef) r) (Option.rec (motive := fun _ => Bool) (ih D (lrec y.see S fun t _ r => Nat.lor r (Nat.shiftLeft 1 (Nat.add (Nat.mul W t) y.i))) (bif_ (Nat.beq y.kind 2) (Nat.lor Q (Nat.shiftLeft 1 y.i)) Q)) (fun d => and_ (inM (sliceM W D d) y.bef) (and_ (inM (sliceM W S d) y.bef) (ih (Nat.lor D (Nat.shiftLeft 1 (Nat.add (Nat.mul W d) y.i))) (lrec y.see S fun t _ r => Nat.lor r (Nat.shiftLeft 1 (Nat.add (Nat.mul W t) y.i))) (bif_ (Nat.beq y.kind 2) (Nat.lor Q (Nat.shiftLeft 1 y.i)) Q)))) y.o.dst))))
def doM (l : List Pl) : Nat := lrec l 0 fun x _ ih => bif_ (Nat.beq x.kind 2) (Nat.lor ih (Nat.shiftLeft 1 x.i)) ih
def behM (W : Nat) (l : List Pl) : Nat := lrec l (Nat.sub (Nat.pow 2 W) 1) fun x _ ih => bif_ (Nat.beq x.kind 2) (Nat.land ih (Nat.lor x.bef (Nat.shiftLeft (Nat.sub (Nat.pow 2 W) 1) x.i))) ih
/-- Nothing that does something may change its place with it. -/
def quietP (W : Nat) (l : List Pl) (y : Pl) : Bool := and_ (inM (Nat.land (doM l) (Nat.sub (Nat.pow 2 y.i) 1)) y.bef) (bit (behM W l) y.i)
def nodeF (W : Nat) (l : List Pl) (y : Pl) (i : Nat) (G : Gm) (nx : Od k (i + 1)) : Od k i := match y.f with
  | .l1 F x => bif_ (quietP W l y) ((Option.rec (motive := fun _ => Od k i) (badD k i) (fun x => Gv.rec (motive := fun _ => Od k i) (fun x => ⟨fun cx fr e h hs cs ls ns => F (x fr e) h fun v => Od.rec (k := k) (i := i + 1) (motive := fun _ => Ans) (fun run => run cx fr (⟨v, e⟩ : Ce (Ve i)) h hs cs ls ns) nx⟩) x) (opnd k E i G x))) (nodeD k E l y i G nx)
  | .l2 F x z => bif_ (quietP W l y) ((Option.rec (motive := fun _ => Od k i) (badD k i) (fun x => Gv.rec (motive := fun _ => Od k i) (fun x => (Option.rec (motive := fun _ => Od k i) (badD k i) (fun z => Gv.rec (motive := fun _ => Od k i) (fun z => ⟨fun cx fr e h hs cs ls ns => F (x fr e) (z fr e) h fun v => Od.rec (k := k) (i := i + 1) (motive := fun _ => Ans) (fun run => run cx fr (⟨v, e⟩ : Ce (Ve i)) h hs cs ls ns) nx⟩) z) (opnd k E i G z))) x) (opnd k E i G x))) (nodeD k E l y i G nx)
  | _ => nodeD k E l y i G nx
def guardedF (W : Nat) (ops : List Oper) (l : List Pl) (y : Pl) (i : Nat) (G : Gm) (nx : Od k (i + 1)) : Od k i := (Option.rec (motive := fun _ => Od k i) (nodeF k E W l y i G nx) (fun g => (Prod.rec (motive := fun _ => Od k i) (fun g want => (Option.rec (motive := fun _ => Od k i) (skipD k y i nx) (fun t => let z := nodeF k E W l y i G nx; let s := skipD k y i nx; (Option.rec (motive := fun _ => Od k i) (badD k i) (fun x => Gv.rec (motive := fun _ => Od k i) (fun x => ⟨fun cx fr e h hs cs ls ns => (AVr Ans.no (fun _ _ => Ans.no) (fun _ => Ans.no) (fun _ _ => Ans.no) Ans.no (fun _ => Ans.no) Ans.no (fun _ _ _ _ _ => Ans.no) Ans.no (fun l _ => (List.rec (motive := fun _ => Ans) ((Od.rec (motive := fun _ => Ans) (fun run => run cx fr e h hs cs ls ns) (s))) (fun _a _t _ => Ans.no) (l))) (fun _ => Ans.no) Ans.no Ans.no Ans.no (fun _ _ _ => Ans.no) (fun _ _ _ => Ans.no) (fun _ _ _ => Ans.no) (fun _ _ _ => Ans.no) (fun _ _ _ _ => Ans.no) (fun _ _ _ => Ans.no) (fun b => (Bool.rec (motive := fun _ => Ans) ((Od.rec (motive := fun _ => Ans) (fun run => run cx fr e h hs cs ls ns) (s))) ((Od.rec (motive := fun _ => Ans) (fun run => run cx fr e h hs cs ls ns) (z))) (eqB b want))) (fun _ _ => Ans.no) (fun _ _ => Ans.no) (fun _ _ => Ans.no) (x fr e))⟩) x) (opnd k E i G (.tmp t)))) (guardT ops g))) (g))) (y.o.guard))
def regF (ops : List Oper) (K : (i : Nat) → Gm → Oc k i) (i : Nat) (G : Gm) : Oc k i :=
  let l := plansF T ops ops [] 0
  let w := lrec l 0 fun _ _ ih => Nat.succ ih
  let m := (l.filter fun x => Nat.beq x.kind 3).length
  let od := (lrec l (endD k K) fun y _ ih i G => (Option.rec (motive := fun _ => Od k i) (guardedF k E w ops l y i G (ih (i + 1) (dstG E y.o.dst (.lvl i) G))) (fun s => ih i (dstG E y.o.dst s G)) (mvS k E G y.o)) : (i : Nat) → Gm → Od k i) i G
  bif_ (or_ (okF w l 0 0 0) (plOk l)) ⟨fun cx fr e h => (Hp.rec (motive := fun _ => Ans) (fun m_ c_ => namesK m c_ fun ns c' => (Od.rec (motive := fun _ => Ans) (fun run => run cx fr e ⟨m_, c'⟩ [] [] [] ns) (od))) h)⟩ (badO k i)
end
end
/-! ### Functions -/
/-- Of a function: the frame's depth, and the temporaries that live in it. -/
structure Fi where
  k : Nat
  E : List Nat
def takeA (i : Nat) : List AV → (Ve i → List AV → Ans) → Ans := Nat.rec (motive := fun i => List AV → (Ve i → List AV → Ans) → Ans) (fun l kk => kk () l) (fun i ih l kk => ih l fun e l => (List.rec (motive := fun _ => Ans) (Ans.no) (fun a t _ => kk (⟨a, e⟩ : Ce (Ve i)) t) (l))) i
def argG (m : Nat) : Gm := nrec m Gm.no fun i ih => ih.to i (.lvl i)
def cfn (T : Ty) (fi : Fi) (nt m : Nat) (rs : List ResultVar) (c : Code) : Fc :=
  let E := Em.of (minN nt 512) fi.E
  let body := (comp T fi.k E rs (regD T fi.k E) c).it (resG T fi.k E rs) m (argG m)
  let fr0 := fillT .u fi.k
  ⟨fun hn args h kk => takeA m args fun e rest => (List.rec (motive := fun _ => Ans) ((Oc.rec (motive := fun _ => Ans) (fun run => run ⟨hn, fun _ _ => Ans.no, fun _ _ _ => Ans.no, fun _ _ _ => Ans.no, kk⟩ fr0 e h) (body))) (fun _a _t _ => Ans.no) (rest))⟩
def badF : Fc := ⟨fun _ _ _ _ => Ans.no⟩
def fnc (T : Ty) (Fs : Tr (Option Func) 4) (fis : Nat → Fi) (f : Nat) : Fc := match (if f < 4096 then tget 4 (paK 4 f) Fs else none) with
  | none => badF
  | some fn => (match fn.body with
    | none => badF
    | some body => bif_ (and_ (Nat.ble (fn.params.size + fn.nfree) fn.ntmps) (Nat.ble (fn.params.size + fn.nfree) 512)) (cfn T (fis f) fn.ntmps (fn.params.size + fn.nfree) fn.results.toList body) badF)
def cfnF (T : Ty) (fi : Fi) (nt m : Nat) (rs : List ResultVar) (c : Code) : Fc :=
  let E := Em.of (minN nt 512) fi.E
  let body := (comp T fi.k E rs (regF T fi.k E) c).it (resG T fi.k E rs) m (argG m)
  let fr0 := fillT .u fi.k
  ⟨fun hn args h kk => takeA m args fun e rest => (List.rec (motive := fun _ => Ans) ((Oc.rec (motive := fun _ => Ans) (fun run => run ⟨hn, fun _ _ => Ans.no, fun _ _ _ => Ans.no, fun _ _ _ => Ans.no, kk⟩ fr0 e h) (body))) (fun _a _t _ => Ans.no) (rest))⟩
def fncF (T : Ty) (Fs : Tr (Option Func) 4) (fis : Nat → Fi) (f : Nat) : Fc := match (if f < 4096 then tget 4 (paK 4 f) Fs else none) with
  | none => badF
  | some fn => (match fn.body with
    | none => badF
    | some body => bif_ (and_ (Nat.ble (fn.params.size + fn.nfree) fn.ntmps) (Nat.ble (fn.params.size + fn.nfree) 512)) (cfnF T (fis f) fn.ntmps (fn.params.size + fn.nfree) fn.results.toList body) badF)
/-! ### Templates -/
/-- So many numbers are of a kind that is told by its number; half of them. -/
def kmN (j : Nat) : Nat := match j with | 0 | 4 => 256 | 1 | 5 => 65536 | 2 | 6 => 4294967296 | _ => 18446744073709551616
def khN (j : Nat) : Nat := match j with | 0 | 4 => 128 | 1 | 5 => 32768 | 2 | 6 => 2147483648 | _ => 9223372036854775808
/-- What an operation makes of two numbers of a kind w. -/
def exF (c w a b : Nat) : Nat := match c with
  | 0 => a + b
  | 1 => a + (kmN w - b)
  | 2 => a * b
  | 3 => Nat.land a b
  | 4 => Nat.lor a b
  | 5 => Nat.xor a b
  | 6 => Nat.land a (Nat.xor b (kmN w - 1))
  | 7 => a * 2 ^ b
  | 8 => if w < 4 then sShr (khN w) (kmN w) a b else a / 2 ^ b
  | 9 => if w < 4 then sQuo (khN w) (kmN w) a b else a / b
  | 10 => if w < 4 then sRem (khN w) (kmN w) a b else a % b
  | 11 => kmN w - a
  | 12 => Nat.xor a (kmN w - 1)
  | c => if w < 4 ∧ kmN w < kmN (c - 20) then sExt (khN w) (kmN w) (kmN (c - 20)) a else a
def exD (c w a b : Nat) : Nat := exF c w (a % kmN w) (b % kmN w)
def numE (e : Ex) : (Nat → Bool) → Bool := Ex.rec (motive := fun _ => (Nat → Bool) → Bool) (fun _ _ => false) (fun n g => g n) (fun c w _ _ iha ihb g => iha fun x => ihb fun y => g (exD c w x y)) e
def getE (l : List Ex) (i : Nat) : Ex := (lrec l (fun _ => .var i) (fun a _ ih j => (Nat.rec (motive := fun _ => Ex) (a) (fun j _ => ih j) (j))) : Nat → Ex) i
/-- Unknowns are other ones. -/
def instE (σ : List Ex) (e : Ex) : Ex := Ex.rec (motive := fun _ => Ex) (fun i => getE σ i) (fun n => .lit n) (fun c w _ _ iha ihb => .op c w iha ihb) e
def nmOk (ps : List (Nm × Nm)) (n m : Nm) : Bool := lrec ps false fun a _ ih => (Prod.rec (motive := fun _ => Bool) (fun x y => (Bool.rec (motive := fun _ => Bool) (ih) (Nm.beq y m) (Nm.beq x n))) a)
def renN (ps : List (Nm × Nm)) (n : Nm) : Nm := lrec ps n fun a _ ih => (Prod.rec (motive := fun _ => Nm) (fun x y => (Bool.rec (motive := fun _ => Nm) (ih) (y) (Nm.beq x n))) a)
/-- A value under other names, of other unknowns. -/
def renA (ps : List (Nm × Nm)) (σ : List Ex) (v : AV) : AV := AV.rec (motive_1 := fun _ => AV) (motive_2 := fun _ => List AV) (motive_3 := fun _ => N8 (N8 (N8 AV))) (motive_4 := fun _ => N8 (N8 AV)) (motive_5 := fun _ => N8 AV) (.u) (fun x0 x1 => .x x0 x1) (fun x0 => .f x0) (fun x0 x1 => .c x0 x1) (.m0) (fun x0 => .m (renN ps x0)) (.fn0) (fun x0 x1 x2 i1 i2 => .fn x0 i1 i2) (.if0) (fun x0 i0 => .tu i0) (fun x0 => .s x0) (.p0) (.sl0) (.se) (fun x0 x1 i1 => .a0 x0 i1) (fun x0 x1 i1 => .a3 x0 i1) (fun x0 x1 i1 => .a2 x0 i1) (fun x0 x1 x2 => .so (renN ps x0) x1 x2) (fun x0 x1 x2 x3 => .sl (renN ps x0) x1 x2 x3) (fun x0 x1 i1 => .a1 x0 i1) (fun x0 => .b x0) (fun x0 x1 => .p (renN ps x0) x1) (fun x0 x1 => .n x0 x1) (fun x0 x1 => .y x0 ((Bool.rec (motive := fun _ => Ex) (instE σ x1) (x1) (Nat.beq x0 8)))) [] (fun _ _ h t => h :: t) (fun a0 a1 a2 a3 a4 a5 a6 a7 h0 h1 h2 h3 h4 h5 h6 h7 => ⟨h0, h1, h2, h3, h4, h5, h6, h7⟩) (fun a0 a1 a2 a3 a4 a5 a6 a7 h0 h1 h2 h3 h4 h5 h6 h7 => ⟨h0, h1, h2, h3, h4, h5, h6, h7⟩) (fun a0 a1 a2 a3 a4 a5 a6 a7 h0 h1 h2 h3 h4 h5 h6 h7 => ⟨h0, h1, h2, h3, h4, h5, h6, h7⟩) v
def mapT (f : AV → AV) (k : Nat) : Tr AV k → Tr AV k := Nat.rec (motive := fun k => Tr AV k → Tr AV k) (fun t => f t) (fun k ih (t : N8 (Tr AV k)) => N8.rec (motive := fun _ => N8 (Tr AV k)) (fun a0 a1 a2 a3 a4 a5 a6 a7 => ⟨ih a0, ih a1, ih a2, ih a3, ih a4, ih a5, ih a6, ih a7⟩) t) k
def renB (ps : List (Nm × Nm)) (σ : List Ex) (b : Blk) : Blk := Blk.rec (motive := fun _ => Blk) .no (fun l => .mp (lrec l [] fun a _ ih => (Prod.rec (motive := fun _ => List (AV × AV)) (fun x y => (renA ps σ x, renA ps σ y) :: ih) a))) (fun ty op n es form ke t => .cells ty op n es form ke (mapT (renA ps σ) ke t)) b
def mtcN (σ : List Ex) (j : Nat) (e : Ex) (w : AV) : Bool := (AVr false (fun _ _ => false) (fun _ => false) (fun _ _ => false) false (fun _ => false) false (fun _ _ _ _ _ => false) false (fun _ _ => false) (fun _ => false) false false false (fun _ _ _ => false) (fun _ _ _ => false) (fun _ _ _ => false) (fun _ _ _ => false) (fun _ _ _ _ => false) (fun _ _ _ => false) (fun _ => false) (fun _ _ => false) (fun j' x => and_ (Nat.beq j j') (numE (instE σ e) fun y => Nat.beq (Nat.mod y (kmN j)) x)) (fun j' e' => and_ (Nat.beq j j') (eqE (instE σ e) e')) (w))
def natB (e : Ex) (z : Int) : Bool := numE e fun n => and_ (Nat.ble n 9007199254740991) (eqI z (Int.ofNat n))
def mtcF (σ : List Ex) (j : Nat) (e : Ex) (w : AV) : Bool := (AVr false (fun _ _ => false) (fun a => and_ (Nat.beq j 11) (natB (instE σ e) a)) (fun a b => and_ (Nat.beq j 10) ((Ex.rec (motive := fun _ => Bool) (fun _ => false) (fun _ => false) (fun c_ w_ a_ b_ _ _ => and_ (and_ (Nat.beq c_ 0) (Nat.beq w_ 0)) (and_ (natB (instE σ a_) a) (natB (instE σ b_) b))) e))) false (fun _ => false) false (fun _ _ _ _ _ => false) false (fun _ _ => false) (fun _ => false) false false false (fun _ _ _ => false) (fun _ _ _ => false) (fun _ _ _ => false) (fun _ _ _ => false) (fun _ _ _ _ => false) (fun _ _ _ => false) (fun _ => false) (fun _ _ => false) (fun _ _ => false) (fun j' e' => and_ (Nat.beq j j') (and_ (eqE (instE σ e) e') (or_ (Nat.beq j 11) ((Ex.rec (motive := fun _ => Bool) (fun _ => false) (fun _ => false) (fun c_ w_ a_ b_ _ _ => and_ (Nat.beq c_ 0) (Nat.beq w_ 0)) e))))) (w))
/-- A slice of the input, the same ahead and behind. -/
def mtcS (σ : List Ex) (j : Nat) (e : Ex) (w : AV) : Bool := (Bool.rec (motive := fun _ => Bool) (false) ((AVr false (fun _ _ => false) (fun _ => false) (fun _ _ => false) false (fun _ => false) false (fun _ _ _ _ _ => false) false (fun _ _ => false) (fun _ => false) false false false (fun _ _ _ => false) (fun _ _ _ => false) (fun _ _ _ => false) (fun _ _ _ => false) (fun _ _ _ _ => false) (fun _ _ _ => false) (fun _ => false) (fun _ _ => false) (fun _ _ => false) (fun j' e' => and_ (Nat.beq j' j) (and_ (eqE e e') (eqE (instE σ e) e))) (w))) (and_ (Nat.ble 16 j) (Nat.ble j 23)))
/-- Is a value one of a pattern's, under other names, of other unknowns? -/
def mtcV (ps : List (Nm × Nm)) (σ : List Ex) (p : AV) : AV → Bool := AV.rec (motive_1 := fun _ => AV → Bool) (motive_2 := fun _ => PUnit.{1}) (motive_3 := fun _ => N8 (N8 (N8 AV)) → Bool) (motive_4 := fun _ => N8 (N8 AV) → Bool) (motive_5 := fun _ => N8 AV → Bool) (fun w => true) (fun x0 x1 w => false) (fun x0 w => (AVr false (fun _ _ => false) (fun y0 => (eqI x0 y0)) (fun _ _ => false) false (fun _ => false) false (fun _ _ _ _ _ => false) false (fun _ _ => false) (fun _ => false) false false false (fun _ _ _ => false) (fun _ _ _ => false) (fun _ _ _ => false) (fun _ _ _ => false) (fun _ _ _ _ => false) (fun _ _ _ => false) (fun _ => false) (fun _ _ => false) (fun _ _ => false) (fun _ _ => false) (w))) (fun x0 x1 w => (AVr false (fun _ _ => false) (fun _ => false) (fun y0 y1 => (and_ (eqI x0 y0) (eqI x1 y1))) false (fun _ => false) false (fun _ _ _ _ _ => false) false (fun _ _ => false) (fun _ => false) false false false (fun _ _ _ => false) (fun _ _ _ => false) (fun _ _ _ => false) (fun _ _ _ => false) (fun _ _ _ _ => false) (fun _ _ _ => false) (fun _ => false) (fun _ _ => false) (fun _ _ => false) (fun _ _ => false) (w))) (fun w => (AVr false (fun _ _ => false) (fun _ => false) (fun _ _ => false) (true) (fun _ => false) false (fun _ _ _ _ _ => false) false (fun _ _ => false) (fun _ => false) false false false (fun _ _ _ => false) (fun _ _ _ => false) (fun _ _ _ => false) (fun _ _ _ => false) (fun _ _ _ _ => false) (fun _ _ _ => false) (fun _ => false) (fun _ _ => false) (fun _ _ => false) (fun _ _ => false) (w))) (fun x0 w => (AVr false (fun _ _ => false) (fun _ => false) (fun _ _ => false) false (fun y0 => (nmOk ps x0 y0)) false (fun _ _ _ _ _ => false) false (fun _ _ => false) (fun _ => false) false false false (fun _ _ _ => false) (fun _ _ _ => false) (fun _ _ _ => false) (fun _ _ _ => false) (fun _ _ _ _ => false) (fun _ _ _ => false) (fun _ => false) (fun _ _ => false) (fun _ _ => false) (fun _ _ => false) (w))) (fun w => (AVr false (fun _ _ => false) (fun _ => false) (fun _ _ => false) false (fun _ => false) (true) (fun _ _ _ _ _ => false) false (fun _ _ => false) (fun _ => false) false false false (fun _ _ _ => false) (fun _ _ _ => false) (fun _ _ _ => false) (fun _ _ _ => false) (fun _ _ _ _ => false) (fun _ _ _ => false) (fun _ => false) (fun _ _ => false) (fun _ _ => false) (fun _ _ => false) (w))) (fun x0 x1 x2 i1 i2 w => false) (fun w => (AVr false (fun _ _ => false) (fun _ => false) (fun _ _ => false) false (fun _ => false) false (fun _ _ _ _ _ => false) (true) (fun _ _ => false) (fun _ => false) false false false (fun _ _ _ => false) (fun _ _ _ => false) (fun _ _ _ => false) (fun _ _ _ => false) (fun _ _ _ _ => false) (fun _ _ _ => false) (fun _ => false) (fun _ _ => false) (fun _ _ => false) (fun _ _ => false) (w))) (fun x0 i0 w => false) (fun x0 w => (AVr false (fun _ _ => false) (fun _ => false) (fun _ _ => false) false (fun _ => false) false (fun _ _ _ _ _ => false) false (fun _ _ => false) (fun y0 => (eqL x0 y0)) false false false (fun _ _ _ => false) (fun _ _ _ => false) (fun _ _ _ => false) (fun _ _ _ => false) (fun _ _ _ _ => false) (fun _ _ _ => false) (fun _ => false) (fun _ _ => false) (fun _ _ => false) (fun _ _ => false) (w))) (fun w => (AVr false (fun _ _ => false) (fun _ => false) (fun _ _ => false) false (fun _ => false) false (fun _ _ _ _ _ => false) false (fun _ _ => false) (fun _ => false) (true) false false (fun _ _ _ => false) (fun _ _ _ => false) (fun _ _ _ => false) (fun _ _ _ => false) (fun _ _ _ _ => false) (fun _ _ _ => false) (fun _ => false) (fun _ _ => false) (fun _ _ => false) (fun _ _ => false) (w))) (fun w => (AVr false (fun _ _ => false) (fun _ => false) (fun _ _ => false) false (fun _ => false) false (fun _ _ _ _ _ => false) false (fun _ _ => false) (fun _ => false) false (true) false (fun _ _ _ => false) (fun _ _ _ => false) (fun _ _ _ => false) (fun _ _ _ => false) (fun _ _ _ _ => false) (fun _ _ _ => false) (fun _ => false) (fun _ _ => false) (fun _ _ => false) (fun _ _ => false) (w))) (fun w => (AVr false (fun _ _ => false) (fun _ => false) (fun _ _ => false) false (fun _ => false) false (fun _ _ _ _ _ => false) false (fun _ _ => false) (fun _ => false) false false (true) (fun _ _ _ => false) (fun _ _ _ => false) (fun _ _ _ => false) (fun _a _b l => Nat.beq l 0) (fun _a _b l _c => Nat.beq l 0) (fun _ _ _ => false) (fun _ => false) (fun _ _ => false) (fun _ _ => false) (fun _ _ => false) (w))) (fun x0 x1 i1 w => (AVr false (fun _ _ => false) (fun _ => false) (fun _ _ => false) false (fun _ => false) false (fun _ _ _ _ _ => false) false (fun _ _ => false) (fun _ => false) false false false (fun y0 y1 _ => (and_ (Nat.beq x0 y0) (i1 y1))) (fun _ _ _ => false) (fun _ _ _ => false) (fun _ _ _ => false) (fun _ _ _ _ => false) (fun _ _ _ => false) (fun _ => false) (fun _ _ => false) (fun _ _ => false) (fun _ _ => false) (w))) (fun x0 x1 i1 w => (AVr false (fun _ _ => false) (fun _ => false) (fun _ _ => false) false (fun _ => false) false (fun _ _ _ _ _ => false) false (fun _ _ => false) (fun _ => false) false false false (fun _ _ _ => false) (fun y0 y1 _ => (and_ (Nat.beq x0 y0) (i1 y1))) (fun _ _ _ => false) (fun _ _ _ => false) (fun _ _ _ _ => false) (fun _ _ _ => false) (fun _ => false) (fun _ _ => false) (fun _ _ => false) (fun _ _ => false) (w))) (fun x0 x1 i1 w => (AVr false (fun _ _ => false) (fun _ => false) (fun _ _ => false) false (fun _ => false) false (fun _ _ _ _ _ => false) false (fun _ _ => false) (fun _ => false) false false false (fun _ _ _ => false) (fun _ _ _ => false) (fun y0 y1 _ => (and_ (Nat.beq x0 y0) (i1 y1))) (fun _ _ _ => false) (fun _ _ _ _ => false) (fun _ _ _ => false) (fun _ => false) (fun _ _ => false) (fun _ _ => false) (fun _ _ => false) (w))) (fun x0 x1 x2 w => (AVr false (fun _ _ => false) (fun _ => false) (fun _ _ => false) false (fun _ => false) false (fun _ _ _ _ _ => false) false (fun _ _ => false) (fun _ => false) false false false (fun _ _ _ => false) (fun _ _ _ => false) (fun _ _ _ => false) (fun y0 y1 y2 => (and_ (nmOk ps x0 y0) (and_ (Nat.beq x1 y1) (Nat.beq x2 y2)))) (fun _ _ _ _ => false) (fun _ _ _ => false) (fun _ => false) (fun _ _ => false) (fun _ _ => false) (fun _ _ => false) (w))) (fun x0 x1 x2 x3 w => (AVr false (fun _ _ => false) (fun _ => false) (fun _ _ => false) false (fun _ => false) false (fun _ _ _ _ _ => false) false (fun _ _ => false) (fun _ => false) false false false (fun _ _ _ => false) (fun _ _ _ => false) (fun _ _ _ => false) (fun _ _ _ => false) (fun y0 y1 y2 y3 => (and_ (nmOk ps x0 y0) (and_ (Nat.beq x1 y1) (and_ (Nat.beq x2 y2) (Nat.beq x3 y3))))) (fun _ _ _ => false) (fun _ => false) (fun _ _ => false) (fun _ _ => false) (fun _ _ => false) (w))) (fun x0 x1 i1 w => (AVr false (fun _ _ => false) (fun _ => false) (fun _ _ => false) false (fun _ => false) false (fun _ _ _ _ _ => false) false (fun _ _ => false) (fun _ => false) false false false (fun _ _ _ => false) (fun _ _ _ => false) (fun _ _ _ => false) (fun _ _ _ => false) (fun _ _ _ _ => false) (fun y0 y1 _ => (and_ (Nat.beq x0 y0) (i1 y1))) (fun _ => false) (fun _ _ => false) (fun _ _ => false) (fun _ _ => false) (w))) (fun x0 w => (AVr false (fun _ _ => false) (fun _ => false) (fun _ _ => false) false (fun _ => false) false (fun _ _ _ _ _ => false) false (fun _ _ => false) (fun _ => false) false false false (fun _ _ _ => false) (fun _ _ _ => false) (fun _ _ _ => false) (fun _ _ _ => false) (fun _ _ _ _ => false) (fun _ _ _ => false) (fun y0 => (eqB x0 y0)) (fun _ _ => false) (fun _ _ => false) (fun _ _ => false) (w))) (fun x0 x1 w => (AVr false (fun _ _ => false) (fun _ => false) (fun _ _ => false) false (fun _ => false) false (fun _ _ _ _ _ => false) false (fun _ _ => false) (fun _ => false) false false false (fun _ _ _ => false) (fun _ _ _ => false) (fun _ _ _ => false) (fun _ _ _ => false) (fun _ _ _ _ => false) (fun _ _ _ => false) (fun _ => false) (fun y0 y1 => (and_ (nmOk ps x0 y0) (Nat.beq x1 y1))) (fun _ _ => false) (fun _ _ => false) (w))) (fun x0 x1 w => (AVr false (fun _ _ => false) (fun _ => false) (fun _ _ => false) false (fun _ => false) false (fun _ _ _ _ _ => false) false (fun _ _ => false) (fun _ => false) false false false (fun _ _ _ => false) (fun _ _ _ => false) (fun _ _ _ => false) (fun _ _ _ => false) (fun _ _ _ _ => false) (fun _ _ _ => false) (fun _ => false) (fun _ _ => false) (fun y0 y1 => (and_ (Nat.beq x0 y0) (Nat.beq x1 y1))) (fun _ _ => false) (w))) (fun x0 x1 w => (Bool.rec (motive := fun _ => Bool) ((Bool.rec (motive := fun _ => Bool) ((Bool.rec (motive := fun _ => Bool) (mtcS σ x0 x1 w) (mtcF σ x0 x1 w) (or_ (Nat.beq x0 10) (Nat.beq x0 11)))) (mtcN σ x0 x1 w) (Nat.ble x0 7))) ((AVr false (fun _ _ => false) (fun _ => false) (fun _ _ => false) false (fun _ => false) false (fun _ _ _ _ _ => false) false (fun _ _ => false) (fun _ => false) false false false (fun _ _ _ => false) (fun _ _ _ => false) (fun _ _ _ => false) (fun _ _ _ => false) (fun _ _ _ _ => false) (fun _ _ _ => false) (fun _ => false) (fun _ _ => false) (fun _ _ => false) (fun j' e' => and_ (Nat.beq j' 8) (eqE x1 e')) (w))) (Nat.beq x0 8))) PUnit.unit (fun _ _ _ _ => PUnit.unit) (fun a0 a1 a2 a3 a4 a5 a6 a7 h0 h1 h2 h3 h4 h5 h6 h7 w => N8.rec (motive := fun _ => Bool) (fun b0 b1 b2 b3 b4 b5 b6 b7 => and_ (and_ (and_ (h0 b0) (h1 b1)) (and_ (h2 b2) (h3 b3))) (and_ (and_ (h4 b4) (h5 b5)) (and_ (h6 b6) (h7 b7)))) w) (fun a0 a1 a2 a3 a4 a5 a6 a7 h0 h1 h2 h3 h4 h5 h6 h7 w => N8.rec (motive := fun _ => Bool) (fun b0 b1 b2 b3 b4 b5 b6 b7 => and_ (and_ (and_ (h0 b0) (h1 b1)) (and_ (h2 b2) (h3 b3))) (and_ (and_ (h4 b4) (h5 b5)) (and_ (h6 b6) (h7 b7)))) w) (fun a0 a1 a2 a3 a4 a5 a6 a7 h0 h1 h2 h3 h4 h5 h6 h7 w => N8.rec (motive := fun _ => Bool) (fun b0 b1 b2 b3 b4 b5 b6 b7 => and_ (and_ (and_ (h0 b0) (h1 b1)) (and_ (h2 b2) (h3 b3))) (and_ (and_ (h4 b4) (h5 b5)) (and_ (h6 b6) (h7 b7)))) w) p
def mtcL (ps : List (Nm × Nm)) (σ : List Ex) (l : List AV) : List AV → Bool := lrec l (fun m => (List.rec (motive := fun _ => Bool) (true) (fun _a _t _ => false) (m))) (fun a _ ih m => (List.rec (motive := fun _ => Bool) (false) (fun b t _ => and_ (mtcV ps σ a b) (ih t)) (m)))
def shB (f s : Nat) (v : AV) : Bool := (Nat.rec (motive := fun _ => Bool) (true) (fun f_ _ => (Nat.rec (motive := fun _ => Bool) ((AVr false (fun _ _ => false) (fun _ => false) (fun _ _ => false) false (fun _ => false) false (fun _ _ _ _ _ => false) false (fun _ _ => false) (fun _ => false) false false false (fun s' _t _ => Nat.beq s' s) (fun _ _ _ => false) (fun _ _ _ => false) (fun _ _ _ => false) (fun _ _ _ _ => false) (fun _ _ _ => false) (fun _ => false) (fun _ _ => false) (fun _ _ => false) (fun _ _ => false) (v))) (fun f_ _ => (Nat.rec (motive := fun _ => Bool) ((AVr false (fun _ _ => false) (fun _ => false) (fun _ _ => false) false (fun _ => false) false (fun _ _ _ _ _ => false) false (fun _ _ => false) (fun _ => false) false false false (fun _ _ _ => false) (fun _ _ _ => false) (fun _ _ _ => false) (fun _ _ _ => false) (fun _ _ _ _ => false) (fun s' _t _ => Nat.beq s' s) (fun _ => false) (fun _ _ => false) (fun _ _ => false) (fun _ _ => false) (v))) (fun f_ _ => (Nat.rec (motive := fun _ => Bool) ((AVr false (fun _ _ => false) (fun _ => false) (fun _ _ => false) false (fun _ => false) false (fun _ _ _ _ _ => false) false (fun _ _ => false) (fun _ => false) false false false (fun _ _ _ => false) (fun _ _ _ => false) (fun s' _t _ => Nat.beq s' s) (fun _ _ _ => false) (fun _ _ _ _ => false) (fun _ _ _ => false) (fun _ => false) (fun _ _ => false) (fun _ _ => false) (fun _ _ => false) (v))) (fun f_ _ => (Nat.rec (motive := fun _ => Bool) ((AVr false (fun _ _ => false) (fun _ => false) (fun _ _ => false) false (fun _ => false) false (fun _ _ _ _ _ => false) false (fun _ _ => false) (fun _ => false) false false false (fun _ _ _ => false) (fun s' _t _ => Nat.beq s' s) (fun _ _ _ => false) (fun _ _ _ => false) (fun _ _ _ _ => false) (fun _ _ _ => false) (fun _ => false) (fun _ _ => false) (fun _ _ => false) (fun _ _ => false) (v))) (fun f_ _ => false) (f_))) (f_))) (f_))) (f_))) (f))
def mtcT (ps : List (Nm × Nm)) (σ : List Ex) (k k' : Nat) (t : Tr AV k) (t' : Tr AV k') (f s : Nat) (cnt : Nat) : Bool := nrec cnt true fun q ih => and_ (and_ (shB f s (tget k (paK k q) t)) (mtcV ps σ (tget k (paK k q) t) (tget k' (paK k' q) t'))) ih
def mtcP (ps : List (Nm × Nm)) (σ : List Ex) (l : List (AV × AV)) : List (AV × AV) → Bool := lrec l (fun m => (List.rec (motive := fun _ => Bool) (true) (fun _a _t _ => false) (m))) (fun a _ ih m => (List.rec (motive := fun _ => Bool) (false) (fun b t _ => (Prod.rec (motive := fun _ => Bool) (fun x y => (Prod.rec (motive := fun _ => Bool) (fun x' y' => and_ (mtcV ps σ x x') (and_ (mtcV ps σ y y') (ih t))) b)) a)) (m)))
def blkM (ps : List (Nm × Nm)) (σ : List Ex) (p a : Blk) : Bool := Blk.rec (motive := fun _ => Bool) false (fun l => Blk.rec (motive := fun _ => Bool) false (fun l' => mtcP ps σ l l') (fun _ _ _ _ _ _ _ => false) a) (fun ty op n es form ke t => Blk.rec (motive := fun _ => Bool) false (fun _ => false) (fun ty' op' n' es' form' ke' t' => and_ (and_ (Nat.beq ty ty') (and_ (Nat.beq es es') (Nat.beq form form'))) (and_ (and_ (Nat.ble n n') (and_ (Nat.beq (Nat.mul (Nat.div n es) es) n) (Nat.ble (Nat.div n es) (Nat.pow 8 ke)))) (mtcT ps σ ke ke' t t' form es (Nat.div n es)))) a) p
def rkN (n : Nm) : Nat := Nm.rec (motive := fun _ => Nat) (fun x y z => Nat.add (Nat.mul 40 (Nat.add (Nat.mul 40 x.num) y.num)) z.num) n
/-- A template: names rise, all below c. -/
def incT (c : Nm) (T : List (Nm × Blk)) : Nat → Bool := lrec T (fun lo => Nat.ble lo (rkN c)) fun a _ ih lo => (Prod.rec (motive := fun _ => Bool) (fun n _b => and_ (Nat.ble lo (rkN n)) (ih (Nat.succ (rkN n)))) a)
def namesT (T : List (Nm × Blk)) : List (Nm × Nm) → Bool := lrec T (fun ps => (List.rec (motive := fun _ => Bool) (true) (fun _a _t _ => false) (ps))) fun a _ ih ps => (List.rec (motive := fun _ => Bool) (false) (fun q ps _ => (Prod.rec (motive := fun _ => Bool) (fun n _b => (Prod.rec (motive := fun _ => Bool) (fun x _y => and_ (Nm.beq n x) (ih ps)) q)) a)) (ps))
def notIn (m : Nm) (ps : List (Nm × Nm)) : Bool := lrec ps true fun a _ ih => (Prod.rec (motive := fun _ => Bool) (fun _x y => and_ (not_ (Nm.beq y m)) ih) a)
def nodupP (ps : List (Nm × Nm)) : Bool := lrec ps true fun a t ih => (Prod.rec (motive := fun _ => Bool) (fun _x y => and_ (notIn y t) ih) a)
def chkT (ps : List (Nm × Nm)) (σ : List Ex) (m : Mem) (T : List (Nm × Blk)) : Bool := lrec T true fun a _ ih => (Prod.rec (motive := fun _ => Bool) (fun n b => and_ (blkM ps σ b (Mem.at (renN ps n) m)) ih) a)
def memT (T : List (Nm × Blk)) : Mem := lrec T Mem.none fun a _ ih => (Prod.rec (motive := fun _ => Mem) (fun n b => Mem.to n ih b) a)
def hpT (T : List (Nm × Blk)) (c : Nm) : Hp := ⟨memT T, c⟩
def fitsT (T : List (Nm × Blk)) (c : Nm) (ps : List (Nm × Nm)) (σ : List Ex) (m : Mem) : Bool := and_ (and_ (incT c T 0) (namesT T ps)) (and_ (nodupP ps) (chkT ps σ m T))
/-- An end: the value and the memory are a pattern's. -/
def okM (V : AV) (T : List (Nm × Blk)) (c : Nm) (ps : List (Nm × Nm)) (σ : List Ex) (v : AV) (h : Hp) : Ans := (Hp.rec (motive := fun _ => Ans) (fun m_ c_ => (Bool.rec (motive := fun _ => Ans) (.no) (.yes) (and_ (mtcV ps σ V v) (fitsT T c ps σ m_)))) h)
/-- The same, of a value of several parts. -/
def okMT (Vs : List AV) (T : List (Nm × Blk)) (c : Nm) (ps : List (Nm × Nm)) (σ : List Ex) (v : AV) (h : Hp) : Ans := (AVr Ans.no (fun _ _ => Ans.no) (fun _ => Ans.no) (fun _ _ => Ans.no) Ans.no (fun _ => Ans.no) Ans.no (fun _ _ _ _ _ => Ans.no) Ans.no (fun l _ => (Hp.rec (motive := fun _ => Ans) (fun m_ c_ => (Bool.rec (motive := fun _ => Ans) (.no) (.yes) (and_ (mtcL ps σ Vs l) (fitsT T c ps σ m_)))) h)) (fun _ => Ans.no) Ans.no Ans.no Ans.no (fun _ _ _ => Ans.no) (fun _ _ _ => Ans.no) (fun _ _ _ => Ans.no) (fun _ _ _ => Ans.no) (fun _ _ _ _ => Ans.no) (fun _ _ _ => Ans.no) (fun _ => Ans.no) (fun _ _ => Ans.no) (fun _ _ => Ans.no) (fun _ _ => Ans.no) (v))
/-- New names for some. -/
def freshK (ns : List Nm) : Nm → (List (Nm × Nm) → Nm → Ans) → Ans := lrec ns (fun c g => g [] c) fun n _ ih c g => Nm.nxt c fun c' => ih c' fun l c'' => g ((n, c) :: l) c''
def putT (T : List (Nm × Blk)) (ps : List (Nm × Nm)) (σ : List Ex) (m : Mem) : Mem := lrec T m fun a _ ih => (Prod.rec (motive := fun _ => Mem) (fun n b => Mem.to (renN ps n) ih (renB ps σ b)) a)
def killP (ps : List (Nm × Nm)) (m : Mem) : Mem := lrec ps m fun a _ ih => (Prod.rec (motive := fun _ => Mem) (fun _x y => Mem.to y ih .no) a)
/-- An answer by contract: what is there is a template's; it becomes another template's. -/
def ctF (A : List AV) (T0 : List (Nm × Blk)) (c0 : Nm) (ps : List (Nm × Nm)) (σ : List Ex) (V : AV) (T1 : List (Nm × Blk)) (news : List Nm) : Fc := ⟨fun _ l h kk => (Hp.rec (motive := fun _ => Ans) (fun m_ c_ => (Bool.rec (motive := fun _ => Ans) (Ans.no) (freshK news c_ fun l' c' => kk (renA (lapp l' ps) σ V) ⟨putT T1 (lapp l' ps) σ (killP ps m_), c'⟩) (and_ (mtcL ps σ A l) (fitsT T0 c0 ps σ m_)))) h)⟩
/-! ### Which names, which unknowns: found by walking along what is pointed to -/
structure Fd where
  (ps nw : List (Nm × Nm))
  (vs : List (Nat × Ex))
def hasN (n : Nm) (ps : List (Nm × Nm)) : Bool := lrec ps false fun a _ ih => (Prod.rec (motive := fun _ => Bool) (fun x _y => (Bool.rec (motive := fun _ => Bool) (ih) (true) (Nm.beq x n))) a)
def hasV (i : Nat) (vs : List (Nat × Ex)) : Bool := lrec vs false fun a _ ih => (Prod.rec (motive := fun _ => Bool) (fun x _y => (Bool.rec (motive := fun _ => Bool) (ih) (true) (Nat.beq x i))) a)
def addN (n m : Nm) (f : Fd) : Fd := (Fd.rec (motive := fun _ => Fd) (fun ps nw vs => (Bool.rec (motive := fun _ => Fd) (⟨(n, m) :: ps, (n, m) :: nw, vs⟩) (⟨ps, nw, vs⟩) (hasN n ps))) f)
def addV (i : Nat) (e : Ex) (f : Fd) : Fd := (Fd.rec (motive := fun _ => Fd) (fun ps nw vs => (Bool.rec (motive := fun _ => Fd) (⟨ps, nw, (i, e) :: vs⟩) (⟨ps, nw, vs⟩) (hasV i vs))) f)
def fdE (p e : Ex) (f : Fd) : Fd := (Ex.rec (motive := fun _ => Fd) (fun i_ => addV i_ e f) (fun _ => f) (fun _ _ _ _ _ _ => f) p)
def fdY (j : Nat) (p : Ex) (w : AV) (f : Fd) : Fd := (AVr f (fun _ _ => f) (fun z => fdE p (.lit (toN 18446744073709551616 z)) f) (fun y z => (Ex.rec (motive := fun _ => Fd) (fun _ => f) (fun _ => f) (fun _ _ p1 p2 _ _ => fdE p1 (.lit (toN 18446744073709551616 y)) (fdE p2 (.lit (toN 18446744073709551616 z)) f)) p)) f (fun _ => f) f (fun _ _ _ _ _ => f) f (fun _ _ => f) (fun _ => f) f f f (fun _ _ _ => f) (fun _ _ _ => f) (fun _ _ _ => f) (fun _ _ _ => f) (fun _ _ _ _ => f) (fun _ _ _ => f) (fun _ => f) (fun _ _ => f) (fun _j z => fdE p (.lit z) f) (fun _j e => (Bool.rec (motive := fun _ => Fd) (fdE p e f) ((Ex.rec (motive := fun _ => Fd) (fun _ => f) (fun _ => f) (fun _ _ p1 p2 _ _ => (Ex.rec (motive := fun _ => Fd) (fun _ => f) (fun _ => f) (fun _ _ a_ b_ _ _ => fdE p1 a_ (fdE p2 b_ f)) e)) p)) (or_ (Nat.beq j 10) (Nat.beq j 9)))) (w))
def fdV (p : AV) : AV → Fd → Fd := AV.rec (motive_1 := fun _ => AV → Fd → Fd) (motive_2 := fun _ => List AV → Fd → Fd) (motive_3 := fun _ => N8 (N8 (N8 AV)) → Fd → Fd) (motive_4 := fun _ => N8 (N8 AV) → Fd → Fd) (motive_5 := fun _ => N8 AV → Fd → Fd) (fun w f => f) (fun x0 x1 w f => f) (fun x0 w f => f) (fun x0 x1 w f => f) (fun w f => f) (fun x0 w f => (AVr f (fun _ _ => f) (fun _ => f) (fun _ _ => f) f (fun y0 => addN x0 y0 f) f (fun _ _ _ _ _ => f) f (fun _ _ => f) (fun _ => f) f f f (fun _ _ _ => f) (fun _ _ _ => f) (fun _ _ _ => f) (fun _ _ _ => f) (fun _ _ _ _ => f) (fun _ _ _ => f) (fun _ => f) (fun _ _ => f) (fun _ _ => f) (fun _ _ => f) (w))) (fun w f => f) (fun x0 x1 x2 i1 i2 w f => f) (fun w f => f) (fun x0 i0 w f => (AVr f (fun _ _ => f) (fun _ => f) (fun _ _ => f) f (fun _ => f) f (fun _ _ _ _ _ => f) f (fun y0 _ => i0 y0 f) (fun _ => f) f f f (fun _ _ _ => f) (fun _ _ _ => f) (fun _ _ _ => f) (fun _ _ _ => f) (fun _ _ _ _ => f) (fun _ _ _ => f) (fun _ => f) (fun _ _ => f) (fun _ _ => f) (fun _ _ => f) (w))) (fun x0 w f => f) (fun w f => f) (fun w f => f) (fun w f => f) (fun x0 x1 i1 w f => (AVr f (fun _ _ => f) (fun _ => f) (fun _ _ => f) f (fun _ => f) f (fun _ _ _ _ _ => f) f (fun _ _ => f) (fun _ => f) f f f (fun y0 y1 _ => i1 y1 f) (fun _ _ _ => f) (fun _ _ _ => f) (fun _ _ _ => f) (fun _ _ _ _ => f) (fun _ _ _ => f) (fun _ => f) (fun _ _ => f) (fun _ _ => f) (fun _ _ => f) (w))) (fun x0 x1 i1 w f => (AVr f (fun _ _ => f) (fun _ => f) (fun _ _ => f) f (fun _ => f) f (fun _ _ _ _ _ => f) f (fun _ _ => f) (fun _ => f) f f f (fun _ _ _ => f) (fun y0 y1 _ => i1 y1 f) (fun _ _ _ => f) (fun _ _ _ => f) (fun _ _ _ _ => f) (fun _ _ _ => f) (fun _ => f) (fun _ _ => f) (fun _ _ => f) (fun _ _ => f) (w))) (fun x0 x1 i1 w f => (AVr f (fun _ _ => f) (fun _ => f) (fun _ _ => f) f (fun _ => f) f (fun _ _ _ _ _ => f) f (fun _ _ => f) (fun _ => f) f f f (fun _ _ _ => f) (fun _ _ _ => f) (fun y0 y1 _ => i1 y1 f) (fun _ _ _ => f) (fun _ _ _ _ => f) (fun _ _ _ => f) (fun _ => f) (fun _ _ => f) (fun _ _ => f) (fun _ _ => f) (w))) (fun x0 x1 x2 w f => (AVr f (fun _ _ => f) (fun _ => f) (fun _ _ => f) f (fun _ => f) f (fun _ _ _ _ _ => f) f (fun _ _ => f) (fun _ => f) f f f (fun _ _ _ => f) (fun _ _ _ => f) (fun _ _ _ => f) (fun y0 y1 y2 => addN x0 y0 f) (fun y0 y1 y2 y3 => addN x0 y0 f) (fun _ _ _ => f) (fun _ => f) (fun _ _ => f) (fun _ _ => f) (fun _ _ => f) (w))) (fun x0 x1 x2 x3 w f => (AVr f (fun _ _ => f) (fun _ => f) (fun _ _ => f) f (fun _ => f) f (fun _ _ _ _ _ => f) f (fun _ _ => f) (fun _ => f) f f f (fun _ _ _ => f) (fun _ _ _ => f) (fun _ _ _ => f) (fun _ _ _ => f) (fun y0 y1 y2 y3 => addN x0 y0 f) (fun _ _ _ => f) (fun _ => f) (fun _ _ => f) (fun _ _ => f) (fun _ _ => f) (w))) (fun x0 x1 i1 w f => (AVr f (fun _ _ => f) (fun _ => f) (fun _ _ => f) f (fun _ => f) f (fun _ _ _ _ _ => f) f (fun _ _ => f) (fun _ => f) f f f (fun _ _ _ => f) (fun _ _ _ => f) (fun _ _ _ => f) (fun _ _ _ => f) (fun _ _ _ _ => f) (fun y0 y1 _ => i1 y1 f) (fun _ => f) (fun _ _ => f) (fun _ _ => f) (fun _ _ => f) (w))) (fun x0 w f => f) (fun x0 x1 w f => (AVr f (fun _ _ => f) (fun _ => f) (fun _ _ => f) f (fun _ => f) f (fun _ _ _ _ _ => f) f (fun _ _ => f) (fun _ => f) f f f (fun _ _ _ => f) (fun _ _ _ => f) (fun _ _ _ => f) (fun _ _ _ => f) (fun _ _ _ _ => f) (fun _ _ _ => f) (fun _ => f) (fun y0 y1 => addN x0 y0 f) (fun _ _ => f) (fun _ _ => f) (w))) (fun x0 x1 w f => f) (fun x0 x1 w f => fdY x0 x1 w f) (fun _ f => f) (fun _ _ h t w f => (List.rec (motive := fun _ => Fd) (f) (fun b r _ => t r (h b f)) (w))) (fun a0 a1 a2 a3 a4 a5 a6 a7 h0 h1 h2 h3 h4 h5 h6 h7 w f => N8.rec (motive := fun _ => Fd) (fun b0 b1 b2 b3 b4 b5 b6 b7 => h7 b7 (h6 b6 (h5 b5 (h4 b4 (h3 b3 (h2 b2 (h1 b1 (h0 b0 f)))))))) w) (fun a0 a1 a2 a3 a4 a5 a6 a7 h0 h1 h2 h3 h4 h5 h6 h7 w f => N8.rec (motive := fun _ => Fd) (fun b0 b1 b2 b3 b4 b5 b6 b7 => h7 b7 (h6 b6 (h5 b5 (h4 b4 (h3 b3 (h2 b2 (h1 b1 (h0 b0 f)))))))) w) (fun a0 a1 a2 a3 a4 a5 a6 a7 h0 h1 h2 h3 h4 h5 h6 h7 w f => N8.rec (motive := fun _ => Fd) (fun b0 b1 b2 b3 b4 b5 b6 b7 => h7 b7 (h6 b6 (h5 b5 (h4 b4 (h3 b3 (h2 b2 (h1 b1 (h0 b0 f)))))))) w) p
def fdL (l : List AV) : List AV → Fd → Fd := lrec l (fun _ f => f) fun a _ ih w f => (List.rec (motive := fun _ => Fd) (f) (fun b r _ => ih r (fdV a b f)) (w))
def fdT (k k' : Nat) (t : Tr AV k) (t' : Tr AV k') (cnt : Nat) (f : Fd) : Fd := (nrec cnt (fun f => f) (fun q ih f => ih (fdV (tget k (paK k q) t) (tget k' (paK k' q) t') f)) : Fd → Fd) f
def fdB (p a : Blk) (f : Fd) : Fd := Blk.rec (motive := fun _ => Fd) f (fun l => Blk.rec (motive := fun _ => Fd) f (fun l' => (lrec l (fun _ f => f) (fun x _ ih w f => (List.rec (motive := fun _ => Fd) (f) (fun y r _ => (Prod.rec (motive := fun _ => Fd) (fun xa xb => (Prod.rec (motive := fun _ => Fd) (fun ya yb => ih r (fdV xa ya (fdV xb yb f))) y)) x)) (w))) : List (AV × AV) → Fd → Fd) l' f) (fun _ _ _ _ _ _ _ => f) a) (fun _ _ n es _ ke t => Blk.rec (motive := fun _ => Fd) f (fun _ => f) (fun _ _ _ _ _ ke' t' => (Bool.rec (motive := fun _ => Fd) (f) (fdT ke ke' t t' (Nat.div n es) f) (Nat.ble n 1000))) a) p
def lkB (n : Nm) (T : List (Nm × Blk)) : Blk := lrec T Blk.no fun a _ ih => (Prod.rec (motive := fun _ => Blk) (fun x b => ((Bool.rec (motive := fun _ => Blk) (ih) (b) (Nm.beq x n)))) a)
/-- So many times: what was found last is looked into. -/
def fdR (T : List (Nm × Blk)) (m : Mem) (k : Nat) (f : Fd) : Fd := (nrec k (fun f => f) (fun _ ih f => ih (Fd.rec (motive := fun _ => Fd) (fun ps nw vs => lrec nw ⟨ps, [], vs⟩ fun a _ g => (Prod.rec (motive := fun _ => Fd) (fun n y => fdB (lkB n T) (Mem.at y m) g) a)) f)) : Fd → Fd) f
def fdP (T : List (Nm × Blk)) (ps : List (Nm × Nm)) : List (Nm × Nm) := lrec T [] fun a _ ih => (Prod.rec (motive := fun _ => List (Nm × Nm)) (fun n _b => (n, renN ps n) :: ih) a)
def fdG (vs : List (Nat × Ex)) (i : Nat) : Ex := lrec vs (.lit 0) fun a _ ih => (Prod.rec (motive := fun _ => Ex) (fun x e => (Bool.rec (motive := fun _ => Ex) (ih) (e) (Nat.beq x i))) a)
def fdS (vs : List (Nat × Ex)) (k : Nat) : List Ex := (nrec k (fun l => l) (fun i ih l => ih (fdG vs i :: l)) : List Ex → List Ex) []
/-- Two numbers are one, of 64 bits. -/
def sameE (tk : List As) (x y : Ex) : Bool := (Bool.rec (motive := fun _ => Bool) (Option.rec (motive := fun _ => Bool) false (fun r => r) (wCmp tk 0 7 x y)) (true) (eqE x y))
def sameL (tk : List As) (l : List Ex) : List Ex → Bool := lrec l (fun m => (List.rec (motive := fun _ => Bool) (true) (fun _a _t _ => false) (m))) (fun a _ ih m => (List.rec (motive := fun _ => Bool) (false) (fun b t _ => and_ (sameE tk a b) (ih t)) (m)))
/-- An answer by contract, its names and unknowns found; the unknowns are those of the contract (s), as far as 64 bits go. -/
def ctI (tk : List As) (A : List AV) (T0 : List (Nm × Blk)) (c0 : Nm) (s : List Ex) (V : AV) (T1 : List (Nm × Blk)) (news : List Nm) : Fc := ⟨fun H l h kk => Hp.rec (motive := fun _ => Ans) (fun m c => Fd.rec (motive := fun _ => Ans) (fun ps _ vs => Bool.rec (motive := fun _ => Ans) Ans.no (Fc.rec (motive := fun _ => Ans) (fun run => run H l ⟨m, c⟩ kk) (ctF A T0 c0 (fdP T0 ps) (fdS vs (lrec s 0 fun _ _ i => Nat.succ i)) V T1 news)) (sameL tk (fdS vs (lrec s 0 fun _ _ i => Nat.succ i)) s)) (fdR T0 m 8 (fdL A l ⟨[], [], []⟩))) h⟩
/-- Of such arguments the one, else the other. -/
def altF (A : List AV) (F G : Fc) : Fc := ⟨fun H l h kk => Bool.rec (motive := fun _ => Ans) (Fc.rec (motive := fun _ => Ans) (fun run => run H l h kk) G) (Fc.rec (motive := fun _ => Ans) (fun run => run H l h kk) F) (mtcL [] [] A l)⟩
/-! ### Pieces of code -/
def gmL (l : List Nat) : Nat → Gm → Gm := lrec l (fun _ G => G) fun t _ ih i G => ih (Nat.succ i) (G.to t (.lvl i))
def slotsK (k : Nat) (E : Em) (ps : List (Nm × Nm)) (σ : List Ex) (i : Nat) (G : Gm) (fr : Tr AV k) (e : Ve i) (pat : List (Nat × AV)) (ok : Ans) : Ans := lrec pat ok fun a _ ih => (Prod.rec (motive := fun _ => Ans) (fun t p => (Option.rec (motive := fun _ => Ans) (Ans.no) (fun g => (Bool.rec (motive := fun _ => Ans) (Ans.no) (ih) (mtcV ps σ p (Gv.rec (motive := fun _ => AV) (fun run => run fr e) g)))) (opnd k E i G (.tmp t)))) (a))
def memK (T : List (Nm × Blk)) (c : Nm) (ps : List (Nm × Nm)) (σ : List Ex) (h : Hp) : Ans := (Hp.rec (motive := fun _ => Ans) (fun m_ _c => (Bool.rec (motive := fun _ => Ans) (.no) (.yes) (fitsT T c ps σ m_))) h)
/-- A piece's end: slots and memory are a pattern's. -/
def stopN (k : Nat) (E : Em) (pat : List (Nat × AV)) (T : List (Nm × Blk)) (c : Nm) (ps : List (Nm × Nm)) (σ : List Ex) (i : Nat) (G : Gm) : Oc k i := ⟨fun _ fr e h => slotsK k E ps σ i G fr e pat (memK T c ps σ h)⟩
def fragRun (T : Ty) (hn : H) (k : Nat) (E : Em) (rs : List ResultVar) (c : Code) (ts : List Nat) (avs : List AV) (h : Hp) (N : (i : Nat) → Gm → Oc k i) (X : Nat → Tr AV k → Hp → Ans) (Rt : AV → Hp → Ans) : Ans := takeA ts.length avs fun e rest => (List.rec (motive := fun _ => Ans) (Oc.rec (k := k) (i := ts.length) (motive := fun _ => Ans) (fun run => run ⟨hn, fun _ _ => Ans.no, X, fun _ _ _ => Ans.no, Rt⟩ (fillT .u k) e h) ((comp T k E rs (regF T k E) c).it N ts.length (gmL ts 0 Gm.no))) (fun _a _t _ => Ans.no) (rest))
def fragN (T : Ty) (hn : H) (k : Nat) (E : Em) (rs : List ResultVar) (c : Code) (ts : List Nat) (avs : List AV) (h : Hp) (pat : List (Nat × AV)) (Tm : List (Nm × Blk)) (cm : Nm) (ps : List (Nm × Nm)) (σ : List Ex) : Ans := fragRun T hn k E rs c ts avs h (stopN k E pat Tm cm ps σ) (fun _ _ _ => Ans.no) (fun _ _ => Ans.no)
def fragX (T : Ty) (hn : H) (k : Nat) (E : Em) (rs : List ResultVar) (c : Code) (ts : List Nat) (avs : List AV) (h : Hp) (id : Nat) (pat : List (Nat × AV)) (Tm : List (Nm × Blk)) (cm : Nm) (ps : List (Nm × Nm)) (σ : List Ex) : Ans := fragRun T hn k E rs c ts avs h (fun i _ => badO k i) (fun j fr h => (Bool.rec (motive := fun _ => Ans) (Ans.no) (slotsK k E ps σ 0 Gm.no fr () pat (memK Tm cm ps σ h)) (Nat.beq j id))) (fun _ _ => Ans.no)
def fragR (T : Ty) (hn : H) (k : Nat) (E : Em) (rs : List ResultVar) (c : Code) (ts : List Nat) (avs : List AV) (h : Hp) (V : AV) (Tm : List (Nm × Blk)) (cm : Nm) (ps : List (Nm × Nm)) (σ : List Ex) : Ans := fragRun T hn k E rs c ts avs h (fun i _ => badO k i) (fun _ _ _ => Ans.no) (okM V Tm cm ps σ)
end
end Go.Proofs.YteefpemaeecicaaGreatDoor.Ev
