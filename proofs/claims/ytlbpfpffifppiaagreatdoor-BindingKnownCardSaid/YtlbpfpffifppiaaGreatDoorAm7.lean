/-
  The evaluator made for the kernel. By an AI agent.
-/
import Derived.Test.YtlbpfpffifppiaaGreatDoorAm1
namespace Go.AM
open Go

/-! ### Slots -/
inductive Pa where
  | h | l (p : Pa) | r (p : Pa)
noncomputable def Pa.of (k : Nat) : Nat → Pa :=
  Nat.rec (motive := fun _ => Nat → Pa) (fun _ => .h) (fun _ ih n => Nat.rec (motive := fun _ => Pa) .h (fun m _ => Bool.rec (motive := fun _ => Pa) (.r (ih (Nat.div m 2))) (.l (ih (Nat.div m 2))) (Nat.beq (Nat.mod m 2) 0)) n) k
noncomputable def getA (p : Pa) : Tm → AV :=
  Pa.rec (motive := fun _ => Tm → AV) (fun t => Tr.rec (motive := fun _ => AV) .junk (fun _ v _ _ _ => Option.rec (motive := fun _ => AV) .junk (fun x => x) v) t)
    (fun _ ih t => Tr.rec (motive := fun _ => AV) .junk (fun l _ _ _ _ => ih l) t)
    (fun _ ih t => Tr.rec (motive := fun _ => AV) .junk (fun _ _ r _ _ => ih r) t) p
noncomputable def setA (x : AV) (p : Pa) : Tm → Tm :=
  Pa.rec (motive := fun _ => Tm → Tm) (fun t => Tr.rec (motive := fun _ => Tm) (.node .leaf (some x) .leaf) (fun l _ r _ _ => .node l (some x) r) t)
    (fun _ ih t => Tr.rec (motive := fun _ => Tm) (.node (ih .leaf) none .leaf) (fun l v r _ _ => .node (ih l) v r) t)
    (fun _ ih t => Tr.rec (motive := fun _ => Tm) (.node .leaf none (ih .leaf)) (fun l v r _ _ => .node l v (ih r)) t) p
noncomputable def pa (n : Nat) : Pa := Pa.of (Nat.add n 1) n
noncomputable def nthR (i : Nat) : List AV → AV :=
  Nat.rec (motive := fun _ => List AV → AV) (fun L => List.rec (motive := fun _ => AV) .junk (fun x _ _ => x) L) (fun _ ih L => List.rec (motive := fun _ => AV) .junk (fun _ l _ => ih l) L) i

/-! ### Blocks -/
noncomputable def getB (t : Tr ABlk) : Nat → Option ABlk :=
  Tr.rec (motive := fun _ => Nat → Option ABlk) (fun _ => none)
    (fun _ v _ gl gr n => Nat.rec (motive := fun _ => Option ABlk) v (fun m _ => Bool.rec (motive := fun _ => Option ABlk) (gr (Nat.div m 2)) (gl (Nat.div m 2)) (Nat.beq (Nat.mod m 2) 0)) n) t
noncomputable def cellsAt {β : Type} (H : AH) (id : Nat) (n : β) (g : List AV → TypeId → Nat → Nat → β) : β :=
  AH.rec (motive := fun _ => β) (fun _ t => Option.rec (motive := fun _ => β) n (fun k => ABlk.rec (motive := fun _ => β) g (fun _ _ => n) (fun _ _ _ _ => n) (fun _ _ => n) (fun _ _ _ _ _ _ _ _ _ => n) (fun _ => n) k) (getB t id)) H
noncomputable def dropR (n : Nat) : List AV → List AV :=
  Nat.rec (motive := fun _ => List AV → List AV) (fun l => l) (fun _ ih l => List.rec (motive := fun _ => List AV) [] (fun _ l _ => ih l) l) n
noncomputable def takeR (n : Nat) : List AV → List AV :=
  Nat.rec (motive := fun _ => List AV → List AV) (fun _ => []) (fun _ ih l => List.rec (motive := fun _ => List AV) [] (fun x l _ => x :: ih l) l) n
noncomputable def nthO (i : Nat) : List AV → Option AV :=
  Nat.rec (motive := fun _ => List AV → Option AV) (fun L => List.rec (motive := fun _ => Option AV) none (fun x _ _ => some x) L) (fun _ ih L => List.rec (motive := fun _ => Option AV) none (fun _ l _ => ih l) L) i

/-! ### Cases of values -/
noncomputable def onBool {β : Type} (n : β) (g : Bool → β) (x : AV) : β :=
  AV.rec (motive_1 := fun _ => β) (motive_2 := fun _ => PUnit) g (fun _ _ => n) (fun _ _ => n) (fun _ => n) n (fun _ _ _ => n) n (fun _ _ _ _ _ => n) n (fun _ => n) (fun _ _ _ _ _ => n) n (fun _ _ _ => n) n (fun _ _ => n) (fun _ _ => n) n ⟨⟩ (fun _ _ _ _ => ⟨⟩) x
noncomputable def onWant {β : Type} (n : β) (z : β) (g : Bool → β) (x : AV) : β :=
  AV.rec (motive_1 := fun _ => β) (motive_2 := fun _ => PUnit) g (fun _ _ => n) (fun _ _ => n) (fun _ => n) n (fun _ _ _ => n) n (fun _ _ _ _ _ => n) n (fun _ => n) (fun _ _ _ _ _ => n) n (fun _ _ _ => n) n (fun _ _ => n) (fun _ _ => n) z ⟨⟩ (fun _ _ _ _ => ⟨⟩) x
noncomputable def onInt {β : Type} (n : β) (g : IntKind → Int → β) (x : AV) : β :=
  AV.rec (motive_1 := fun _ => β) (motive_2 := fun _ => PUnit) (fun _ => n) g (fun _ _ => n) (fun _ => n) n (fun _ _ _ => n) n (fun _ _ _ _ _ => n) n (fun _ => n) (fun _ _ _ _ _ => n) n (fun _ _ _ => n) n (fun _ _ => n) (fun _ _ => n) n ⟨⟩ (fun _ _ _ _ => ⟨⟩) x
noncomputable def onStr {β : Type} (n : β) (g : List Nat → β) (x : AV) : β :=
  AV.rec (motive_1 := fun _ => β) (motive_2 := fun _ => PUnit) (fun _ => n) (fun _ _ => n) (fun _ _ => n) g n (fun _ _ _ => n) n (fun _ _ _ _ _ => n) n (fun _ => n) (fun _ _ _ _ _ => n) n (fun _ _ _ => n) n (fun _ _ => n) (fun _ _ => n) n ⟨⟩ (fun _ _ _ _ => ⟨⟩) x
noncomputable def onPtr {β : Type} (n : β) (g : Nat → Nat → Nat → β) (x : AV) : β :=
  AV.rec (motive_1 := fun _ => β) (motive_2 := fun _ => PUnit) (fun _ => n) (fun _ _ => n) (fun _ _ => n) (fun _ => n) n g n (fun _ _ _ _ _ => n) n (fun _ => n) (fun _ _ _ _ _ => n) n (fun _ _ _ => n) n (fun _ _ => n) (fun _ _ => n) n ⟨⟩ (fun _ _ _ _ => ⟨⟩) x
noncomputable def onSlc {β : Type} (n : β) (z : β) (g : Nat → Nat → Nat → Option Nat → Nat → β) (x : AV) : β :=
  AV.rec (motive_1 := fun _ => β) (motive_2 := fun _ => PUnit) (fun _ => n) (fun _ _ => n) (fun _ _ => n) (fun _ => n) n (fun _ _ _ => n) z g n (fun _ => n) (fun _ _ _ _ _ => n) n (fun _ _ _ => n) n (fun _ _ => n) (fun _ _ => n) n ⟨⟩ (fun _ _ _ _ => ⟨⟩) x
noncomputable def onTup {β : Type} (n : β) (g : List AV → β) (x : AV) : β :=
  AV.rec (motive_1 := fun _ => β) (motive_2 := fun _ => PUnit) (fun _ => n) (fun _ _ => n) (fun _ _ => n) (fun _ => n) n (fun _ _ _ => n) n (fun _ _ _ _ _ => n) n (fun _ => n) (fun _ _ _ _ _ => n) n (fun _ _ _ => n) n (fun _ _ => n) (fun l _ => g l) n ⟨⟩ (fun _ _ _ _ => ⟨⟩) x
noncomputable def onNat {β : Type} (n : β) (g : Nat → β) (x : AV) : β := onInt n (fun _ i => Int.rec (motive := fun _ => β) g (fun _ => n) i) x

noncomputable def kindR (a b : IntKind) : Bool :=
  IntKind.rec (motive := fun _ => IntKind → Bool)
    (fun b => IntKind.rec (motive := fun _ => Bool) true false false false false false false false b) (fun b => IntKind.rec (motive := fun _ => Bool) false true false false false false false false b)
    (fun b => IntKind.rec (motive := fun _ => Bool) false false true false false false false false b) (fun b => IntKind.rec (motive := fun _ => Bool) false false false true false false false false b)
    (fun b => IntKind.rec (motive := fun _ => Bool) false false false false true false false false b) (fun b => IntKind.rec (motive := fun _ => Bool) false false false false false true false false b)
    (fun b => IntKind.rec (motive := fun _ => Bool) false false false false false false true false b) (fun b => IntKind.rec (motive := fun _ => Bool) false false false false false false false true b) a b
noncomputable def is64 (a : IntKind) : Bool := IntKind.rec (motive := fun _ => Bool) false false false true false false false false a
noncomputable def natBin (f : Nat → Nat → AV) (e : Int → Int → AV) (a b : Int) : AV :=
  Int.rec (motive := fun _ => AV) (fun m => Int.rec (motive := fun _ => AV) (fun n => f m n) (fun _ => e a b) b) (fun _ => e a b) a
noncomputable def int2 (e : Option AV) (g : IntKind → Int → Int → AV) (x y : AV) : Option AV :=
  onInt e (fun k a => onInt e (fun k' b => Bool.rec (motive := fun _ => Option AV) e (some (g k a b)) (kindR k k')) y) x

/-! ### Operands -/
structure OK where
  f : List AV → Tm → AV
structure LK where
  f : List AV → Tm → List AV
structure PK where
  f : List AV → Tm → AH → Option AV
structure EK where
  f : List AV → Tm → AH → OR
structure RK where
  f : Rec → List AV → Nat → Tm → List ADef → AH → Res
structure CK where
  f : Rec → Nat → Tm → List ADef → AH → Res

def idxOf (t : Nat) : List Nat → Option Nat
  | [] => none
  | u :: l => bif Nat.beq u t then some 0 else match idxOf t l with | some i => some (i + 1) | none => none
noncomputable def opdK (gl : Nat → Nat) (ls : List Nat) : Operand → OK
  | .tmp t => (match idxOf t ls with | some i => ⟨fun L _ => nthR i L⟩ | none => ⟨fun _ T => getA (pa t) T⟩)
  | .const v => ⟨fun _ _ => ofValue v⟩
  | .global g => (match gl g with | 0 => ⟨fun _ _ => .junk⟩ | n + 1 => ⟨fun _ _ => .ptr g 0 (n + 1)⟩)
  | .func f => ⟨fun _ _ => .fn (.func f) [] []⟩
noncomputable def rhoF (C : Cfg) (ls : List Nat) (L : List AV) (T : Tm) : Operand → AV := fun x => (opdK C.gl ls x).f L T
noncomputable def opdsK (gl : Nat → Nat) (ls : List Nat) : List Operand → LK
  | [] => ⟨fun _ _ => []⟩
  | x :: l => ⟨fun L T => (opdK gl ls x).f L T :: (opdsK gl ls l).f L T⟩

/-! ### Operations that leave memory as it is -/
noncomputable def genP (C : Cfg) (op : Op) (ρ : Operand → AV) (H : AH) : Option AV :=
  match clsOf op with
  | .pure => (match pureA C ρ op with
    | some v => some v
    | none => (match op with | .binOp o t x y _ => ptrEqA C.P H o t (ρ x) (ρ y) | _ => none))
  | .read => readA C ρ H op
  | _ => none

noncomputable def binK (op : BinOp) (e : List AV → Tm → AH → Option AV) (x y : OK) : PK :=
  match op with
  | .add => ⟨fun L T H => int2 (e L T H) (fun k a b => natBin (fun m n => Bool.rec (motive := fun _ => AV) (.int k (wrapQ' k (a + b))) (.int k (.ofNat (Nat.add m n))) (Bool.rec (motive := fun _ => Bool) false (is64 k) (Nat.ble (Nat.add m n) 9223372036854775807))) (fun a b => .int k (wrapQ' k (a + b))) a b) (x.f L T) (y.f L T)⟩
  | .sub => ⟨fun L T H => int2 (e L T H) (fun k a b => natBin (fun m n => Bool.rec (motive := fun _ => AV) (.int k (wrapQ' k (a - b))) (.int k (.ofNat (Nat.sub m n))) (Bool.rec (motive := fun _ => Bool) false (Bool.rec (motive := fun _ => Bool) false (is64 k) (Nat.ble (Nat.sub m n) 9223372036854775807)) (Nat.ble n m))) (fun a b => .int k (wrapQ' k (a - b))) a b) (x.f L T) (y.f L T)⟩
  | .eql => ⟨fun L T H => int2 (e L T H) (fun _ a b => natBin (fun m n => .bool (Nat.beq m n)) (fun a b => .bool (intEq a b)) a b) (x.f L T) (y.f L T)⟩
  | .neq => ⟨fun L T H => int2 (e L T H) (fun _ a b => natBin (fun m n => .bool (Bool.rec (motive := fun _ => Bool) true false (Nat.beq m n))) (fun a b => .bool (!intEq a b)) a b) (x.f L T) (y.f L T)⟩
  | .lss => ⟨fun L T H => int2 (e L T H) (fun _ a b => natBin (fun m n => .bool (Nat.ble (Nat.succ m) n)) (fun a b => .bool (intLt a b)) a b) (x.f L T) (y.f L T)⟩
  | .leq => ⟨fun L T H => int2 (e L T H) (fun _ a b => natBin (fun m n => .bool (Nat.ble m n)) (fun a b => .bool (intLe a b)) a b) (x.f L T) (y.f L T)⟩
  | .gtr => ⟨fun L T H => int2 (e L T H) (fun _ a b => natBin (fun m n => .bool (Nat.ble (Nat.succ n) m)) (fun a b => .bool (intLt b a)) a b) (x.f L T) (y.f L T)⟩
  | .geq => ⟨fun L T H => int2 (e L T H) (fun _ a b => natBin (fun m n => .bool (Nat.ble n m)) (fun a b => .bool (intLe b a)) a b) (x.f L T) (y.f L T)⟩
  | _ => ⟨e⟩

noncomputable def loadK (C : Cfg) (t : TypeId) (x : OK) : PK :=
  bif (C.P.underlying t).isNone then ⟨fun _ _ _ => none⟩ else
  bif isAggT C.P t then (match sizeT C.P t with
    | some n => ⟨fun L T H => onPtr none (fun id off lim => cellsAt H id none (fun cs _ _ _ => Bool.rec (motive := fun _ => Option AV) none
        (Bool.rec (motive := fun _ => Option AV) none (some (.agg (takeR n (dropR off cs)))) (Nat.beq (List.length (takeR n (dropR off cs))) n)) (Nat.ble (Nat.add off n) lim))) (x.f L T)⟩
    | none => ⟨fun _ _ _ => none⟩)
  else ⟨fun L T H => onPtr none (fun id off lim => cellsAt H id none (fun cs _ _ _ => Bool.rec (motive := fun _ => Option AV) none (nthO off cs) (Nat.ble (Nat.add off 1) lim))) (x.f L T)⟩

noncomputable def lenK (C : Cfg) (e : List AV → Tm → AH → Option AV) (t : TypeId) (x : OK) : PK :=
  match C.P.underlying t with
  | some .string => ⟨fun L T _ => onStr none (fun s => some (.int .i64 (.ofNat s.length))) (x.f L T)⟩
  | some (.slice _) => ⟨fun L T _ => onSlc none (some (.int .i64 0)) (fun _ _ n _ _ => some (.int .i64 (.ofNat n))) (x.f L T)⟩
  | _ => ⟨e⟩

noncomputable def indexAddrK (C : Cfg) (e : List AV → Tm → AH → Option AV) (t : TypeId) (x i : OK) : PK :=
  match C.P.underlying t with
  | some (.slice el) => (match sizeT C.P el with
    | some s => bif Nat.blt 0 s then ⟨fun L T _ => onSlc none none (fun id off len _ esz => onNat none (fun n =>
        Bool.rec (motive := fun _ => Option AV) none (Bool.rec (motive := fun _ => Option AV) none (some (.ptr id (Nat.add off (Nat.mul n s)) (Nat.add off (Nat.mul len s)))) (Nat.beq s esz)) (Nat.ble (Nat.succ n) len)) (i.f L T)) (x.f L T)⟩ else ⟨e⟩
    | none => ⟨e⟩)
  | _ => ⟨e⟩

noncomputable def fieldAddrK (C : Cfg) (e : List AV → Tm → AH → Option AV) (t : TypeId) (x : OK) (f : Nat) : PK :=
  match C.P.underlying t with
  | some (.struct fs) => (match fs[f]? with
    | some fd => (match sizeT C.P fd.type with
      | some n => bif Nat.blt 0 n then (match fd.offset with | o => ⟨fun L T _ => onPtr none (fun id off lim => some (.ptr id (Nat.add off o) lim)) (x.f L T)⟩) else ⟨e⟩
      | none => ⟨e⟩)
    | none => ⟨e⟩)
  | _ => ⟨e⟩

noncomputable def compP (C : Cfg) (ls : List Nat) (op : Op) : PK :=
  match op with
  | .move x => ⟨fun L T _ => some ((opdK C.gl ls x).f L T)⟩
  | .assign x => ⟨fun L T _ => some ((opdK C.gl ls x).f L T)⟩
  | .pick c a b => ⟨fun L T _ => onBool none (fun t => Bool.rec (motive := fun _ => Option AV) (some ((opdK C.gl ls b).f L T)) (some ((opdK C.gl ls a).f L T)) t) ((opdK C.gl ls c).f L T)⟩
  | .binOp o t x y z => binK o (fun L T H => genP C (.binOp o t x y z) (rhoF C ls L T) H) (opdK C.gl ls x) (opdK C.gl ls y)
  | .extract x i => ⟨fun L T _ => onTup none (fun l => nthO i l) ((opdK C.gl ls x).f L T)⟩
  | .load t a => loadK C t (opdK C.gl ls a)
  | .indexAddr t x i => indexAddrK C (fun L T H => genP C (.indexAddr t x i) (rhoF C ls L T) H) t (opdK C.gl ls x) (opdK C.gl ls i)
  | .fieldAddr t x f => fieldAddrK C (fun L T H => genP C (.fieldAddr t x f) (rhoF C ls L T) H) t (opdK C.gl ls x) f
  | .call c => (match c.callee, c.argTypes[0]?, c.args.toList with
    | .builtin .len, some t, [x] => lenK C (fun L T H => genP C (.call c) (rhoF C ls L T) H) t (opdK C.gl ls x)
    | _, _, _ => ⟨fun L T H => genP C (.call c) (rhoF C ls L T) H⟩)
  | op => ⟨fun L T H => genP C op (rhoF C ls L T) H⟩

/-- Operations of any kind. -/
noncomputable def compE (C : Cfg) (ls : List Nat) (op : Op) : EK :=
  match op with
  | .store t a v => ⟨fun L T H => retU (opStore C.P H t ((opdK C.gl ls a).f L T) ((opdK C.gl ls v).f L T))⟩
  | .alloc e => (match newA C.P e with | some n => ⟨fun _ _ H => .val (n.val H.next) (H.new n.blk)⟩ | none => ⟨fun _ _ _ => .err⟩)
  | .call c => (match c.callee with
    | .value (.func g) => bif hasBody C g then ⟨fun L T _ => .call g ((opdsK C.gl ls c.args.toList).f L T)⟩ else ⟨fun L T H => opA C (rhoF C ls L T) H (.call c)⟩
    | _ => ⟨fun L T H => opA C (rhoF C ls L T) H (.call c)⟩)
  | op => ⟨fun L T H => opA C (rhoF C ls L T) H op⟩

/-! ### Regions -/
noncomputable def crK (r : CR) (nt : Nat) (T : Tm) (d : List ADef) (k : AV → AH → Res) : Res :=
  CR.rec (motive := fun _ => Res) k (fun v H => .ok (.pan v) ⟨nt, T, d, H⟩) .err r
noncomputable def orK (r : OR) (R : Rec) (nt : Nat) (T : Tm) (d : List ADef) (H : AH) (k : AV → List ADef → AH → Res) : Res :=
  OR.rec (motive := fun _ => Res) (fun v H' => k v d H') (fun f args => crK (R.call f args H) nt T d (fun v H' => k v d H')) (fun id args => crK (R.round id args H) nt T d (fun v H' => k v d H'))
    (fun v => .ok (.pan v) ⟨nt, T, d, H⟩) (fun x => Bool.rec (motive := fun _ => Res) (k (.tup []) (x :: d) H) .err R.rd) .err .err r

/-- Where a value goes. -/
noncomputable def dstK (lm : Nat) (dst : Option Tmp) (ls : List Nat) (k : List Nat → RK) (g : (AV → Rec → List AV → Nat → Tm → List ADef → AH → Res) → RK) : RK :=
  match dst with
  | none => g (fun _ R L nt T d H => (k ls).f R L nt T d H)
  | some x => bif bit lm x then (match idxOf x ls with | some _ => ⟨fun _ _ _ _ _ _ => .err⟩ | none => g (fun v R L nt T d H => (k (x :: ls)).f R (v :: L) nt T d H))
    else g (fun v R L nt T d H => Bool.rec (motive := fun _ => Res) .err ((k ls).f R L nt (setA v (pa x) T) d H) (Nat.ble (Nat.succ x) nt))

noncomputable def baseK (C : Cfg) (lm : Nat) (o : Oper) (ls : List Nat) (k : List Nat → RK) : RK :=
  match clsOf o.op with
  | .pure => dstK lm o.dst ls k (fun g => ⟨fun R L nt T d H => Option.rec (motive := fun _ => Res) .err (fun v => g v R L nt T d H) ((compP C ls o.op).f L T H)⟩)
  | .read => dstK lm o.dst ls k (fun g => ⟨fun R L nt T d H => Option.rec (motive := fun _ => Res) .err (fun v => g v R L nt T d H) ((compP C ls o.op).f L T H)⟩)
  | _ => dstK lm o.dst ls k (fun g => ⟨fun R L nt T d H => orK ((compE C ls o.op).f L T H) R nt T d H (fun v d' H' => g v R L nt T d' H')⟩)
noncomputable def skipK (lm : Nat) (o : Oper) (ls : List Nat) (k : List Nat → RK) : RK := dstK lm o.dst ls k (fun g => ⟨fun R L nt T d H => g (.tup []) R L nt T d H⟩)

noncomputable def guardK (C : Cfg) (lm : Nat) (all : List Oper) (o : Oper) (ls : List Nat) (k : List Nat → RK) : RK :=
  match o.guard with
  | none => baseK C lm o ls k
  | some (j, want) => match all[j]? with
    | some q => (match q.dst with
      | some x => ⟨fun R L nt T d H => onWant ((skipK lm o ls k).f R L nt T d H) .err (fun b => Bool.rec (motive := fun _ => Res) (Bool.rec (motive := fun _ => Res) ((baseK C lm o ls k).f R L nt T d H) ((skipK lm o ls k).f R L nt T d H) want) (Bool.rec (motive := fun _ => Res) ((skipK lm o ls k).f R L nt T d H) ((baseK C lm o ls k).f R L nt T d H) want) b) ((opdK C.gl ls (.tmp x)).f L T)⟩
      | none => skipK lm o ls k)
    | none => skipK lm o ls k

noncomputable def compR (C : Cfg) (lm : Nat) (all : List Oper) : List Oper → List Nat → RK
  | [], _ => ⟨fun _ _ nt T d H => .ok .nrm ⟨nt, T, d, H⟩⟩
  | o :: rest, ls => guardK C lm all o ls (fun ls' => compR C lm all rest ls')

/-! ### Code -/
noncomputable def seqK (k : Nat → Tm → List ADef → AH → Res) (r : Res) : Res :=
  Res.rec (motive := fun _ => Res) (fun e s => Ex.rec (motive := fun _ => Res) (St.rec (motive := fun _ => Res) k s) (fun n => .ok (.exit n) s) (.ok .ret s) (fun v => .ok (.pan v) s) e) .err r
noncomputable def blockK (id : Nat) (r : Res) : Res :=
  Res.rec (motive := fun _ => Res) (fun e s => Ex.rec (motive := fun _ => Res) (.ok .nrm s) (fun n => Bool.rec (motive := fun _ => Res) (.ok (.exit n) s) (.ok .nrm s) (Nat.beq n id)) (.ok .ret s) (fun v => .ok (.pan v) s) e) .err r
noncomputable def loopK (g : Nat → Tm → List ADef → AH → Res) (n : Nat) : Nat → Tm → List ADef → AH → Res :=
  Nat.rec (motive := fun _ => Nat → Tm → List ADef → AH → Res) (fun _ _ _ _ => .err) (fun _ ih nt T d H => seqK ih (g nt T d H)) n

/-- The code that a round leaves behind is a jump. -/
noncomputable def jumpE (R : Rec) : Evs := ⟨fun _ c s => match c with | .exit id => .ok (.exit id) s | .ret => .ok .ret s | _ => .err, R.call, R.round⟩
def dstsOk (lm : Nat) : List Oper → Bool
  | [] => true
  | o :: l => (match o.dst with | some d => bif bit lm d then false else true | none => true) && dstsOk lm l

noncomputable def compC (C : Cfg) (lm : Nat) : Code → CK
  | .skip => ⟨fun _ nt T d H => .ok .nrm ⟨nt, T, d, H⟩⟩
  | .label _ => ⟨fun _ nt T d H => .ok .nrm ⟨nt, T, d, H⟩⟩
  | .seq a b => ⟨fun R nt T d H => seqK (fun nt T d H => (compC C lm b).f R nt T d H) ((compC C lm a).f R nt T d H)⟩
  | .cond x a b => ⟨fun R nt T d H => onBool .err (fun t => Bool.rec (motive := fun _ => Res) ((compC C lm b).f R nt T d H) ((compC C lm a).f R nt T d H) t) ((opdK C.gl [] x).f [] T)⟩
  | .block id b => ⟨fun R nt T d H => blockK id ((compC C lm b).f R nt T d H)⟩
  | .loop b => ⟨fun R nt T d H => loopK (fun nt T d H => (compC C lm b).f R nt T d H) 100000 nt T d H⟩
  | .scope b => ⟨fun R nt T d H => (compC C lm b).f R nt T d H⟩
  | .exit id => ⟨fun _ nt T d H => .ok (.exit id) ⟨nt, T, d, H⟩⟩
  | .ret => ⟨fun _ nt T d H => .ok .ret ⟨nt, T, d, H⟩⟩
  | .region _ ops false => ⟨fun R nt T d H => (compR C lm ops.toList ops.toList []).f R [] nt T d H⟩
  | .region _ ops true => bif dstsOk lm ops.toList then ⟨fun R nt T d H => drawA C R ops.toList ⟨nt, T, d, H⟩⟩ else ⟨fun _ _ _ _ _ => .err⟩
  | .rangeFunc f ps a b => ⟨fun R nt T d H => rangeFuncA C (jumpE R) R.rd f ps a b ⟨nt, T, d, H⟩⟩
  | .goto _ => ⟨fun _ _ _ _ _ => .err⟩
  | .refuse _ => ⟨fun _ _ _ _ _ => .err⟩

/-! ### Calls -/
structure FK where
  f : Evs → List AV → AH → CR
noncomputable def argsR (l : List AV) : Nat → Tm → Tm :=
  List.rec (motive := fun _ => Nat → Tm → Tm) (fun _ T => T) (fun v _ ih i T => ih (Nat.add i 1) (setA v (pa i) T)) l
noncomputable def tmpsK : List ResultVar → Option LK
  | [] => some ⟨fun _ _ => []⟩
  | .tmp t :: l => (match tmpsK l with | some k => some ⟨fun L T => getA (pa t) T :: k.f L T⟩ | none => none)
  | .cell _ _ :: _ => none
noncomputable def endK (C : Cfg) (E : Evs) (fn : Func) (q : AH → Tm → CR) (r : Res) : CR :=
  Res.rec (motive := fun _ => CR) (fun e s => St.rec (motive := fun _ => CR) (fun nt T d H => Ex.rec (motive := fun _ => CR)
      (List.rec (motive := fun _ => CR) (q H T) (fun _ _ _ => leaveA C E fn d ⟨nt, T, d, H⟩ none) d) (fun _ => .err) (List.rec (motive := fun _ => CR) (q H T) (fun _ _ _ => leaveA C E fn d ⟨nt, T, d, H⟩ none) d)
      (fun v => leaveA C E fn d ⟨nt, T, d, H⟩ (some (v, false))) e) s) .err r
noncomputable def funK (C : Cfg) (lmT : Nat → Nat) (f : FuncId) : FK :=
  match C.P.funcs[f]? with
  | none => ⟨fun _ _ _ => .err⟩
  | some fn => (match fn.body with
    | none => ⟨fun _ _ _ => .err⟩
    | some body => bif Nat.blt (lmT f) (2 ^ fn.ntmps) then
        (match tmpsK fn.results.toList with
        | some k => ⟨fun E args H => Bool.rec (motive := fun _ => CR) .err (endK C E fn (fun H T => .ret (one (k.f [] T)) H) ((compC C (lmT f) body).f (E.rec' false) fn.ntmps (argsR args 0 .leaf) [] H))
            (Bool.rec (motive := fun _ => Bool) false (Nat.ble args.length fn.ntmps) (Nat.beq (Nat.mod (lmT f) (2 ^ args.length)) 0))⟩
        | none => ⟨fun E args H => Bool.rec (motive := fun _ => CR) .err (endK C E fn (fun H T => leaveA C E fn [] ⟨fn.ntmps, T, [], H⟩ none) ((compC C (lmT f) body).f (E.rec' false) fn.ntmps (argsR args 0 .leaf) [] H))
            (Bool.rec (motive := fun _ => Bool) false (Nat.ble args.length fn.ntmps) (Nat.beq (Nat.mod (lmT f) (2 ^ args.length)) 0))⟩)
      else ⟨fun _ _ _ => .err⟩)

/-! ### Calls that are known already: plain arguments; a plain value, or one new block -/
inductive MO where
  | val (v : AV)
  | blk (k : ABlk) (v : Nat → AV)
structure ME where
  args : List AV
  out : MO
noncomputable def isTab (cs : List AV) (e : TypeId) (H : AH) : Bool :=
  cellsAt H 1 false (fun cs' e' ver fz => Bool.rec (motive := fun _ => Bool) false (Bool.rec (motive := fun _ => Bool) false (Bool.rec (motive := fun _ => Bool) false (Nat.beq fz 0) (Nat.beq ver 0)) (Nat.beq e e')) (avsEq cs cs'))
noncomputable def memoK (l : List ME) (args : List AV) (H : AH) (r : CR) : CR :=
  List.rec (motive := fun _ => CR) r (fun m _ ih => Bool.rec (motive := fun _ => CR) ih (MO.rec (motive := fun _ => CR) (fun v => .ret v H) (fun k g => .ret (g H.next) (H.new k)) m.out) (avsEq m.args args)) l

/-- What a run rests on: the masks of local slots, the calls that are known, the table that these read. -/
structure Kit where
  lm : Nat → Nat
  memo : Nat → List ME
  tab : List AV
  te : TypeId

noncomputable def fastE (C : Cfg) (K : Kit) (n : Nat) : Evs :=
  Nat.rec (motive := fun _ => Evs) ⟨fun _ _ _ => .err, fun _ _ _ => .err, fun _ _ _ => .err⟩
    (fun _ E => ⟨fun rd c s => St.rec (motive := fun _ => Res) (fun nt T d H => (compC C 0 c).f (E.rec' rd) nt T d H) s,
      fun f args H => List.rec (motive := fun _ => CR) ((funK C K.lm f).f E args H) (fun _ _ _ => Bool.rec (motive := fun _ => CR) .err (memoK (K.memo f) args H ((funK C K.lm f).f E args H)) (isTab K.tab K.te H)) (K.memo f),
      roundE E⟩) n
end Go.AM
