/- A run of code by the kernel: any one operation. -/
import Derived.Test.YtemediifhpgdgaaGreatXB
import Derived.Test.YtemediifhpgdgaaGreatGE
import Derived.Test.YtemediifhpgdgaaGreatGG
namespace Go.Gsl
set_option linter.unusedVariables false
abbrev ETab := T (List XK)
section
variable {ρ : Type} {P : Program} {X : T XT} {E : ETab} {env : T Value} {H : AHeap} {nx : Nat} {r : ρ}

noncomputable def rdCall (c : Call) : T XT → ETab → T Value → AHeap → (Value → Option ρ) → Option ρ := match c with
  | ⟨.builtin .len, ⟨[x]⟩, ⟨[t]⟩⟩ => fun X _ env H k => rdLen X t x env H k
  | ⟨.builtin .cap, ⟨[x]⟩, ⟨[t]⟩⟩ => fun X _ env H k => rdCap X t x env H k
  | ⟨.builtin .min, ⟨[x, y]⟩, _⟩ => fun _ _ env H k => rdMin x y env H k
  | ⟨.builtin .max, ⟨[x, y]⟩, _⟩ => fun _ _ env H k => rdMax x y env H k
  | _ => fun _ _ _ _ _ => none
/-- an operation that leaves all as it is -/
noncomputable def rdF (op : Op) : T XT → ETab → T Value → AHeap → (Value → Option ρ) → Option ρ := match op with
  | .move x => fun _ _ env H k => rdMove x env H k
  | .assign x => fun _ _ env H k => rdMove x env H k
  | .pick c x y => fun _ _ env H k => rdPick c x y env H k
  | .build t ps => fun X _ env H k => rdBuild X t ps.toList env H k
  | .load t x => fun X _ env H k => rdLoad X t x env H k
  | .nilCheck x => fun _ _ env H k => rdNil x env H k
  | .binOp op t x y t' => fun X E env H k => rdBin X E op t x y t' env H k
  | .unOp op t x => fun _ _ env H k => rdUn op x env H k
  | .convert s t x => fun X _ env H k => rdConv2 X s t x env H k
  | .makeInterface t x => fun X _ env H k => rdMakeIface X t x env H k
  | .makeFunc fn fs cs => fun _ _ env H k => rdMakeFunc fn fs.toList cs.toList env H k
  | .slice t x lo hi mx => fun X _ env H k => rdSlice X t x lo hi mx env H k
  | .fieldAddr t x i => fun X _ env H k => rdFieldAddr X t x i env H k
  | .field t x i => fun X _ env H k => rdField X t x i env H k
  | .indexAddr t x y => fun X _ env H k => rdIndexAddr X t x y env H k
  | .index t x y => fun X _ env H k => rdIndex X t x y env H k
  | .lookup t x y ok => fun X _ env H k => rdLookup X t x y ok env H k
  | .typeAssert x _ t ok => fun X _ env H k => rdAssert X x t ok env H k
  | .extract x i => fun _ _ env H k => rdExtract x i env H k
  | .call c => fun X E env H k => rdCall c X E env H k
  | _ => fun _ _ _ _ _ => none


theorem rdCall_some (hX : TyOK P X) {c : Call} {k : Value → Option ρ} (h : rdCall c X E env H k = some r) (ty : TypeId) : ∃ v, RdOK P (.call c) ty env H v ∧ k v = some r := by
  unfold rdCall at h
  split at h
  · exact rdLen_some hX h
  · exact rdCap_some hX h
  · exact rdMin_some h
  · exact rdMax_some h
  · cases h
theorem rdF_some (hX : TyOK P X) (hE : EqTab P E) {op : Op} {k : Value → Option ρ} (h : rdF op X E env H k = some r) (ty : TypeId) : ∃ v, RdOK P op ty env H v ∧ k v = some r := by
  unfold rdF at h
  split at h
  · obtain ⟨v, h1, _, h2⟩ := rdMove_some (P := P) (ty := ty) h; exact ⟨v, h1, h2⟩
  · obtain ⟨v, _, h1, h2⟩ := rdMove_some (P := P) (ty := ty) h; exact ⟨v, h1, h2⟩
  · exact rdPick_some h
  · exact rdBuild_some hX h
  · exact rdLoad_some hX h
  · exact rdNil_some h
  · exact rdBin_some hX hE h
  · exact rdUn_some h
  · exact rdConv2_some hX h
  · exact rdMakeIface_some hX h
  · exact rdMakeFunc_some h
  · exact rdSlice_some hX h
  · exact rdFieldAddr_some hX h
  · exact rdField_some hX h
  · exact rdIndexAddr_some hX h
  · exact rdIndex_some hX h
  · exact rdLookup_some hX h
  · exact rdAssert_some hX h
  · exact rdExtract_some h
  · exact rdCall_some hX h ty
  · cases h

noncomputable def isNum (X : T XT) (t : TypeId) : Bool := match X.get t with
  | some x => match x.kd with
    | .int _ => true
    | _ => false
  | none => false
noncomputable def wrCall (c : Call) : T XT → T Value → AHeap → Nat → (Option Value → AHeap → Nat → Option ρ) → Option ρ := match c with
  | ⟨.builtin .append, ⟨[x, y]⟩, ⟨[t, tx]⟩⟩ => fun X env H nx k => Bool.rec (motive := fun _ => Option ρ) (wrAppend X t tx x y env H nx k) (wrAppendZ X t tx x y env H nx k) (isNum X tx)
  | ⟨.builtin .copy, ⟨[x, y]⟩, ⟨t :: ts⟩⟩ => fun X env H nx k => wrCopy X t x y env H nx k
  | ⟨.builtin .clear, ⟨[x]⟩, ⟨t :: ts⟩⟩ => fun X env H nx k => wrClear X t x env H nx k
  | ⟨.builtin .delete, ⟨[x, y]⟩, ⟨t :: ts⟩⟩ => fun X env H nx k => wrDelete X t x y env H nx k
  | _ => fun _ _ _ _ _ => none
/-- an operation with an effect -/
noncomputable def wrF (op : Op) : T XT → T Value → AHeap → Nat → (Option Value → AHeap → Nat → Option ρ) → Option ρ := match op with
  | .alloc t => fun X _ H nx k => wrAlloc X t H nx k
  | .box t x => fun _ env H nx k => wrBox t x env H nx k
  | .buildSlice t l ps => fun X env H nx k => wrBuildSlice X t l ps.toList env H nx k
  | .insert t x y z => fun X env H nx k => wrMapPut X t x y z env H nx k
  | .mapUpdate t x y z => fun X env H nx k => wrMapPut X t x y z env H nx k
  | .store t x y => fun X env H nx k => wrStore X t x y env H nx k
  | .makeMap t q => fun X env H nx k => wrMakeMap X t q env H nx k
  | .makeSlice t x y => fun X env H nx k => wrMakeSlice X t x y env H nx k
  | .range t x => fun X env H nx k => wrRange X t x env H nx k
  | .next x s => fun _ env H nx k => wrNext x s env H nx k
  | .entry x => fun _ env H nx k => wrEntry x env H nx k
  | .call c => fun X env H nx k => wrCall c X env H nx k
  | _ => fun _ _ _ _ _ => none
theorem wrCall_some (hX : TyOK P X) {c : Call} {k : Option Value → AHeap → Nat → Option ρ} (h : wrCall c X env H nx k = some r) (ty : TypeId) : ∃ ov H' nx', WrOK P (.call c) ty env H nx ov H' nx' ∧ k ov H' nx' = some r := by
  unfold wrCall at h
  split at h
  · rename_i x y t tx
    cases hb : isNum X tx with
    | false => rw [hb] at h; exact wrAppend_some hX h
    | true => rw [hb] at h; exact wrAppendZ_some hX h
  · exact wrCopy_some hX h rfl
  · exact wrClear_some hX h rfl
  · exact wrDelete_some hX h rfl
  · cases h
theorem wrF_some (hX : TyOK P X) {op : Op} {k : Option Value → AHeap → Nat → Option ρ} (h : wrF op X env H nx k = some r) (ty : TypeId) : ∃ ov H' nx', WrOK P op ty env H nx ov H' nx' ∧ k ov H' nx' = some r := by
  unfold wrF at h
  split at h
  · exact wrAlloc_some hX h
  · exact wrBox_some h
  · exact wrBuildSlice_some hX h
  · obtain ⟨a, b, c, _, h1, h2⟩ := wrMapPut_some (P := P) (ty := ty) hX h; exact ⟨a, b, c, h1, h2⟩
  · obtain ⟨a, b, c, h1, _, h2⟩ := wrMapPut_some (P := P) (ty := ty) hX h; exact ⟨a, b, c, h1, h2⟩
  · exact wrStore_some hX h
  · exact wrMakeMap_some hX h
  · exact wrMakeSlice_some hX h
  · exact wrRange_some hX h
  · exact wrNext_some h
  · exact wrEntry_some h
  · exact wrCall_some hX h ty
  · cases h
end
end Go.Gsl

namespace Go.Gsl
set_option linter.unusedVariables false

/-! ### the memory, two parts -/
theorem heap_mono {w0 w : World} {F : List Res} {H : AHeap} {m m' : Ren} (hs : Sat w0 w ((kH, HEAP H m) :: F)) (hm : m.le m') : Sat w0 w ((kH, HEAP H m') :: F) :=
  hs.ent (Ent.head fun h hh => ⟨fun k o hk => by obtain ⟨b, s, r, h1, h2, h3⟩ := hh.1 k o hk; exact ⟨b, s, r, hm.on _ _ h1, h2.mono hm, h3⟩,
    fun k k' o o' x x' h1 h2 h3 h4 h5 => by
      obtain ⟨b, s, r, h6, _⟩ := hh.1 k o h1
      obtain ⟨b', s', r', h7, _⟩ := hh.1 k' o' h2
      rw [hm.on _ _ h6] at h3; cases h3
      rw [hm.on _ _ h7] at h4; cases h4
      exact hh.2 k k' o o' _ _ h1 h2 h6 h7 h5⟩)
theorem heap_less {w0 w : World} {F : List Res} {H H' : AHeap} {m : Ren} (hs : Sat w0 w ((kH, HEAP H m) :: F)) (hl : ∀ k o, H'.get k = some o → H.get k = some o) : Sat w0 w ((kH, HEAP H' m) :: F) :=
  hs.ent (Ent.head fun h hh => ⟨fun k o hk => hh.1 k o (hl k o hk), fun k k' o o' x x' h1 h2 => hh.2 k k' o o' x x' (hl _ _ h1) (hl _ _ h2)⟩)
/-- the run's memory: blocks, and those of loops over functions -/
def MemR (w0 : World) (F : List Res) (m : Ren) (H LS : AHeap) (nx : Nat) (w : World) : Prop := MB m nx ∧ Sat w0 w ((kH, HEAP H m) :: (kH, HEAP LS m) :: F)
theorem MemR.swap {w0 w : World} {F : List Res} {H LS : AHeap} {m : Ren} {nx : Nat} (h : MemR w0 F m H LS nx w) : MemR w0 F m LS H nx w := ⟨h.1, h.2.ent (Ent.swap _ _ _)⟩
/-- what a change of the one part leaves of the other -/
theorem MemR.of {w0 w' : World} {F : List Res} {H' LS : AHeap} {m m' : Ren} {nx' : Nat} (hm : MB m' nx') (hl : m.le m') (hs : Sat w0 w' ((kH, HEAP H' m') :: (kH, HEAP LS m) :: F)) : MemR w0 F m' H' LS nx' w' :=
  ⟨hm, (heap_mono (hs.ent (Ent.swap _ _ _)) hl).ent (Ent.swap _ _ _)⟩

/-! ### what the loops' codes must be like -/
def isDfr (o : Oper) : Bool := match o.op with
  | .defer _ => true
  | _ => false
/-- all of 'listed', and those of 'ps' -/
def withB (listed : Array Bool) (ps : List Nat) : Array Bool := ps.foldl (fun l i => l.setIfInBounds i true) listed
def oneR (l : List Nat) (i : Nat) : Bool := match l with
  | [j] => Nat.beq j i
  | _ => false
def isOut (ps : List Nat) (i : Nat) : Bool := ps.all fun j => !Nat.beq j i
/-- an operation that is never taken out of its turn -/
def effOp (op : Op) : Bool := match op with
  | .store .. => true
  | .mapUpdate .. => true
  | .insert .. => true
  | .call ⟨.value _, _, _⟩ => true
  | .call ⟨.invoke _ _, _, _⟩ => true
  | .call ⟨.builtin .append, _, _⟩ => true
  | .call ⟨.builtin .copy, _, _⟩ => true
  | .call ⟨.builtin .clear, _, _⟩ => true
  | .call ⟨.builtin .delete, _, _⟩ => true
  | _ => false
def effAt (ops : Array Oper) (i : Nat) : Bool := match ops[i]? with
  | some o => effOp o.op
  | none => false
/-- the first waits for the second, this one for the next, .., the last one for i -/
def isPath (ops : Array Oper) (i : Nat) : List Nat → Bool
  | [] => false
  | [j] => (match ops[j]? with
    | some o => o.after.any fun e => Region.binds .any e && Nat.beq e.on i
    | none => false)
  | j :: k :: l => (match ops[j]? with
    | some o => o.after.any fun e => Region.binds .any e && Nat.beq e.on k
    | none => false) && isPath ops i (k :: l)
/-- does an operation that is listed, and never taken out of its turn, wait for this one? -/
def isDead (ops : Array Oper) (listed : Array Bool) (i : Nat) (p : List Nat) : Bool := isPath ops i p && (match p with
  | j :: _ => listed.getD j false && effAt ops j
  | [] => false)
def steps : List It → Nat
  | [] => 0
  | .pend _ :: r => steps r
  | .fg _ _ :: r => steps r
  | _ :: r => steps r + 1
/-- a listing that holds whatever order is drawn -/
def chkIts (ops : Array Oper) : Array Bool → List Nat → List It → Bool
  | listed, ps, [] => (Region.ready .any ops listed).isEmpty && ps.isEmpty
  | listed, ps, .rd i :: r => !effAt ops i && Region.free .any ops listed i && (Region.ready .any ops listed).contains i && isOut ps i && chkIts ops (listed.setIfInBounds i true) ps r
  | listed, ps, .ld i :: r => !effAt ops i && Region.free .any ops listed i && (Region.ready .any ops listed).contains i && isOut ps i && chkIts ops (listed.setIfInBounds i true) ps r
  | listed, ps, .eff i :: r => (Region.ready .any ops listed).contains i && isOut ps i && oneR (Region.ready .any ops (withB listed ps)) i && chkIts ops (listed.setIfInBounds i true) ps r
  | listed, ps, .pend i :: r => Region.free .any ops listed i && (Region.ready .any ops listed).contains i && isOut ps i && chkIts ops listed (i :: ps) r
  | listed, ps, .mrg i :: r => oneR (Region.ready .any ops (withB listed (ps.filter fun j => !Nat.beq j i))) i && (Region.ready .any ops listed).contains i && ps.any (fun j => Nat.beq j i) && chkIts ops (listed.setIfInBounds i true) (ps.filter fun j => !Nat.beq j i) r
  | listed, ps, .fg i p :: r => isDead ops listed i p && chkIts ops listed ps r
def chkDst (n : Nat) (ops : List Oper) : Bool := ops.all fun o => match o.dst with
  | some d => Nat.blt d n
  | none => true
def chkDraw (ops : List Oper) (its : List It) : Bool := noDefer ops && Region.noSelect ops.toArray && Nat.beq (steps its) ops.length && chkIts ops.toArray (Array.replicate ops.length false) [] its
noncomputable def chk (L : T (List It)) (n : Nat) : Code → Bool
  | .region id ops draw => chkDst n ops.toList && (match draw with
    | true => (match L.get id with
      | some its => chkDraw ops.toList its
      | none => true)
    | false => true)
  | .seq a b => chk L n a && chk L n b
  | .cond _ a b => chk L n a && chk L n b
  | .block _ c => chk L n c
  | .loop c => chk L n c
  | .rangeFunc _ ps a b => ps.toList.all (fun p => Nat.blt p n) && chk L n a && chk L n b
  | .scope c => chk L n c
  | _ => true
/-- the loops that stand in memory have such codes -/
def LOK (LS : AHeap) : Prop := ∀ k env n ps as bd L st pe db, LS.get k = some (.loop env n ps as bd L st pe db) → chk L n as = true ∧ chk L n bd = true ∧ (∀ p ∈ ps, p < n)

/-! ### calls -/
def ArgR (m : Ren) : List (Option Value) → List Value → Prop
  | [], l => l = []
  | o :: os, l => ∃ x xs, l = x :: xs ∧ (∀ v, o = some v → tr m v = some x) ∧ ArgR m os xs
theorem ArgR.mono {m m' : Ren} (h : m.le m') : ∀ {os : List (Option Value)} {xs : List Value}, ArgR m os xs → ArgR m' os xs
  | [], _, he => he
  | _ :: _, _, ⟨x, xs, h1, h2, h3⟩ => ⟨x, xs, h1, fun v hv => tr_mono h _ _ (h2 v hv), h3.mono h⟩
theorem ArgR.len {m : Ren} : ∀ {os : List (Option Value)} {xs : List Value}, ArgR m os xs → xs.length = os.length
  | [], _, he => by cases he; rfl
  | _ :: _, _, ⟨x, xs, h1, h2, h3⟩ => by subst h1; simp [h3.len]
theorem ArgR.app {m : Ren} : ∀ {os os' : List (Option Value)} {xs xs' : List Value}, ArgR m os xs → ArgR m os' xs' → ArgR m (os ++ os') (xs ++ xs')
  | [], _, _, _, he, h' => by cases he; exact h'
  | _ :: _, _, _, _, ⟨x, xs, h1, h2, h3⟩, h' => by subst h1; exact ⟨x, _, rfl, h2, h3.app h'⟩
theorem ArgR.of_tr {m : Ren} : ∀ {vs xs : List Value}, trL m vs = some xs → ArgR m (vs.map some) xs
  | [], xs, h => by simp [trL] at h; subst h; rfl
  | v :: vs, xs, h => by
    obtain ⟨y, z, h1, h2, rfl⟩ := trL_cons.1 h
    exact ⟨y, z, rfl, fun u hu => by cases hu; exact h1, ArgR.of_tr h2⟩

/-- what comes of an operation's first step -/
def UpOK (P : Program) (K : Value → World → Prop) : Result Next → Prop
  | .ok (.value v) w' => K v w'
  | .ok .skip w' => K undef w'
  | .ok (.enter f args) w' => Calls P f args w' fun e w'' => ∃ v, e = .returned v ∧ K v w''
  | .ok (.round l f tmps as bd) w' => ∀ rr, RoundIn (fz rr) 0 P l f tmps as bd w' fun e w'' => ∃ v, e = .returned v ∧ K v w''
  | _ => False
theorem UpOK.upon {P : Program} {K : Value → World → Prop} {res : Result Next} (h : UpOK P K res) {o : Oper} {a : Act} {rr : Option Nat} {next : Act → World → Prop} {q : Exit → Act → World → Prop} (hk : ∀ v w', K v w' → next (a.put o.dst v) w') :
    o.uponIn (fz rr) 0 P a next q res := by
  cases res with
  | halt x w => cases h
  | ok x w =>
    cases x with
    | value v => exact hk v w h
    | skip => exact hk undef w h
    | enter f args =>
      refine ⟨fun h => by simp [fz, Fence.wide] at h, callsIn_fz.2 (Calls.mono h fun e w'' he => ?_)⟩
      obtain ⟨v, rfl, hv⟩ := he
      exact hk v w'' hv
    | round l f tmps as bd =>
      refine ⟨fun h => by simp [fz, Fence.wide] at h, RoundIn.mono (h rr) fun e w'' he => ?_⟩
      obtain ⟨v, rfl, hv⟩ := he
      exact hk v w'' hv
    | _ => cases h
def callSem (f : Value) (args : Array Value) : Sem Next := do
  let d ← Deferred.ofValue f args
  invoke d.target d.args
/-- a call of this value, from this memory -/
def InvOK (P : Program) (fv : Value) (vs : List (Option Value)) (H LS : AHeap) (nx : Nat) (v : Value) (H' LS' : AHeap) (nx' : Nat) : Prop :=
  nx ≤ nx' ∧ ∀ (m : Ren) (w w0 : World) (F : List Res) (fx : Value) (xs : List Value) (K : Value → World → Prop), tr m fv = some fx → ArgR m vs xs → MemR w0 F m H LS nx w →
    (∀ m' x w', m.ext nx m' → tr m' v = some x → MemR w0 F m' H' LS' nx' w' → K x w') → UpOK P K ((callSem fx xs.toArray).run P w)
section
variable {ρ : Type}
abbrev CallV (ρ : Type) := Value → List (Option Value) → AHeap → AHeap → Nat → (Value → AHeap → AHeap → Nat → Option ρ) → Option ρ
def CvSound (P : Program) (cv : CallV ρ) : Prop := ∀ fv vs H LS nx k r, LOK LS → cv fv vs H LS nx k = some r → ∃ v H' LS' nx', InvOK P fv vs H LS nx v H' LS' nx' ∧ LOK LS' ∧ k v H' LS' nx' = some r
/-- the program's tables -/
structure Cf where
  X : T XT
  E : ETab
  meth : TypeId → String → Option FuncId
structure CfOK (P : Program) (cf : Cf) : Prop where
  X : TyOK P cf.X
  E : EqTab P cf.E
  meth : ∀ t s g, cf.meth t s = some g → ∀ v xs w, (callMethod (.iface t v) s xs).run P w = (callFunc g (#[v] ++ xs)).run P w
abbrev OpK (ρ : Type) := Cf → CallV ρ → Option Tmp → T Value → AHeap → AHeap → Nat → (T Value → AHeap → AHeap → Nat → Option ρ) → Option ρ

noncomputable def dstK (d : Option Tmp) (v : Value) (env : T Value) (k : T Value → Option ρ) : Option ρ := match d with
  | none => k env
  | some d => T.put (some v) env d k
noncomputable def opR (op : Op) : OpK ρ := fun cf _ d env H LS nx k => rdF op cf.X cf.E env H fun v => dstK d v env fun env => k env H LS nx
noncomputable def opW (op : Op) : OpK ρ := fun cf _ d env H LS nx k => wrF op cf.X env H nx fun ov H nx' => ckK (Nat.ble nx nx') (dstK d (ov.getD undef) env fun env => k env H LS nx')
noncomputable def evoK (o : Operand) (env : T Value) (k : Option Value → Option ρ) : Option ρ := match o with
  | .tmp t => Option.rec (motive := fun _ => Option ρ) (k none) (fun v => k (some v)) (env.get t)
  | o => evK o env fun v => k (some v)
noncomputable def evoL (os : List Operand) (env : T Value) : (List (Option Value) → Option ρ) → Option ρ :=
  List.rec (motive := fun _ => (List (Option Value) → Option ρ) → Option ρ) (fun k => k []) (fun o _ ih k => evoK o env fun v => ih fun vs => k (v :: vs)) os
noncomputable def opC (c : Call) : OpK ρ := match c with
  | ⟨.builtin b, as, ts⟩ => (match b with
    | .len | .cap | .min | .max => opR (.call ⟨.builtin b, as, ts⟩)
    | _ => opW (.call ⟨.builtin b, as, ts⟩))
  | ⟨.value f, ⟨as⟩, _⟩ => fun cf cv d env H LS nx k => evK f env fun fv => evoL as env fun vs => cv fv vs H LS nx fun v H LS nx => dstK d v env fun env => k env H LS nx
  | ⟨.invoke x s, ⟨as⟩, _⟩ => fun cf cv d env H LS nx k => evK x env fun xv => match xv with
    | .iface t u => (match cf.meth t s with
      | some g => evoL as env fun vs => cv (.func (.func g) ⟨[]⟩ ⟨[]⟩) (some u :: vs) H LS nx fun v H LS nx => dstK d v env fun env => k env H LS nx
      | none => none)
    | _ => none
noncomputable def opG (op : Op) : OpK ρ := match op with
  | .call c => opC c
  | .alloc t => opW (.alloc t)
  | .box t x => opW (.box t x)
  | .buildSlice t l ps => opW (.buildSlice t l ps)
  | .insert t x y z => opW (.insert t x y z)
  | .mapUpdate t x y z => opW (.mapUpdate t x y z)
  | .store t x y => opW (.store t x y)
  | .makeMap t q => opW (.makeMap t q)
  | .makeSlice t x y => opW (.makeSlice t x y)
  | .range t x => opW (.range t x)
  | .next x s => opW (.next x s)
  | .entry x => opW (.entry x)
  | op => opR op
/-- is it wanted? -/
noncomputable def guardK (ops : List Oper) (g : Option (Nat × Bool)) (env : T Value) (k : Bool → Option ρ) : Option ρ := match g with
  | none => k true
  | some (j, b) => nthK ops j fun o => match o.dst with
    | none => none
    | some t => getK env t fun v => match v with
      | .bool c => (match b, c with
        | true, true => k true
        | false, false => k true
        | _, _ => k false)
      | .tuple ⟨[]⟩ => k false
      | _ => none
noncomputable def opK (cf : Cf) (cv : CallV ρ) (ops : List Oper) (o : Oper) (env : T Value) (H LS : AHeap) (nx : Nat) (k : T Value → AHeap → AHeap → Nat → Option ρ) : Option ρ :=
  guardK ops o.guard env fun b => Bool.rec (motive := fun _ => Option ρ) (dstK o.dst undef env fun env => k env H LS nx) (opG o.op cf cv o.dst env H LS nx k) b
end

/-- the other slots as they were -/
def SB (d : Option Tmp) (env env' : T Value) : Prop := ∀ j, d ≠ some j → env'.get j = env.get j
/-- one operation, then K -/
def Wp1 (F : Fence) (P : Program) (ops : Array Oper) (q : Exit → Act → World → Prop) (o : Oper) (K : Act → World → Prop) (a : Act) (w : World) : Prop :=
  if Region.wanted o (yielded ops a.tmps) then o.wpIn F 0 P a w K q else (∀ f, o.about P w a.eval = some f → F.fn f) ∧ K (a.put o.dst undef) w
def OpOK (P : Program) (ops : Array Oper) (o : Oper) (n : Nat) (env : T Value) (H LS : AHeap) (nx : Nat) (env' : T Value) (H' LS' : AHeap) (nx' : Nat) : Prop :=
  (nx ≤ nx' ∧ SB o.dst env env') ∧ ∀ (m : Ren) (a : Act) (w w0 : World) (F : List Res) (rr : Option Nat) (q : Exit → Act → World → Prop) (K : Act → World → Prop), EnvR m env n a.tmps → MemR w0 F m H LS nx w →
    (∀ m' x w', m.ext nx m' → EnvR m' env' n (a.put o.dst x).tmps → MemR w0 F m' H' LS' nx' w' → K (a.put o.dst x) w') → Wp1 (fz rr) P ops q o K a w

section
variable {ρ : Type} {P : Program} {cf : Cf} {cv : CallV ρ} {ops : List Oper} {o : Oper} {n : Nat} {env : T Value} {H LS : AHeap} {nx : Nat} {r : ρ} {k : T Value → AHeap → AHeap → Nat → Option ρ}
theorem EnvR.put {m : Ren} {env' : T Value} {a : Act} {d : Nat} {v x : Value} (he : EnvR m env n a.tmps) (hv : tr m v = some x) (hd : d < n) (hg : ∀ j, env'.get j = if j = d then some v else env.get j) : EnvR m env' n (a.put (some d) x).tmps := by
  refine ⟨by simp [Act.put, he.1], fun i u hi => ?_⟩
  rw [hg] at hi
  by_cases h : i = d
  · subst h
    rw [if_pos rfl] at hi; cases hi
    exact ⟨x, hv, by simp [Act.put, he.1, hd]⟩
  · rw [if_neg h] at hi
    obtain ⟨y, h1, h2⟩ := he.2 i u hi
    exact ⟨y, h1, by simp only [Act.put]; rw [Array.getElem?_setIfInBounds_ne (Ne.symm h)]; exact h2⟩
theorem EnvR.without {m : Ren} {env' : T Value} {a : Act} {d : Nat} {x : Value} (he : EnvR m env n a.tmps) (hg : ∀ j, env'.get j = if j = d then none else env.get j) : EnvR m env' n (a.put (some d) x).tmps := by
  refine ⟨by simp [Act.put, he.1], fun i u hi => ?_⟩
  rw [hg] at hi
  by_cases h : i = d
  · subst h; rw [if_pos rfl] at hi; cases hi
  · rw [if_neg h] at hi
    obtain ⟨y, h1, h2⟩ := he.2 i u hi
    exact ⟨y, h1, by simp only [Act.put]; rw [Array.getElem?_setIfInBounds_ne (Ne.symm h)]; exact h2⟩
/-- the target's slot holds this from now on -/
def DstOK (d : Option Tmp) (v : Value) (n : Nat) (env env' : T Value) : Prop := ∀ (m : Ren) (a : Act) (x : Value), EnvR m env n a.tmps → tr m v = some x → EnvR m env' n (a.put d x).tmps
theorem dstK_some {d : Option Tmp} {v : Value} {k : T Value → Option ρ} (h : dstK d v env k = some r) (hd : ∀ t, d = some t → t < n) : ∃ env', (SB d env env' ∧ DstOK d v n env env') ∧ k env' = some r := by
  unfold dstK at h
  split at h
  · exact ⟨env, ⟨fun _ _ => rfl, fun m a x he hv => he⟩, h⟩
  · rename_i t
    obtain ⟨env', hg, h⟩ := T.put_spec _ _ _ _ _ h
    exact ⟨env', ⟨fun j hj => by rw [hg, if_neg (fun e => hj (by rw [e]))], fun m a x he hv => he.put hv (hd t rfl) hg⟩, h⟩
theorem tr_undef (m : Ren) : tr m undef = some undef := by simp [undef, tr, trL]

theorem evoK_some {x : Operand} {k : Option Value → Option ρ} (h : evoK x env k = some r) : ∃ ov, (∀ (m : Ren) (n : Nat) (a : Act), EnvR m env n a.tmps → ∀ v, ov = some v → tr m v = some (a.eval x)) ∧ k ov = some r := by
  unfold evoK at h
  split at h
  · rename_i t
    cases hg : env.get t with
    | none => rw [hg] at h; exact ⟨none, fun m n a he v hv => (by cases hv), h⟩
    | some v =>
      rw [hg] at h
      refine ⟨some v, fun m n a he u hu => ?_, h⟩
      cases hu
      obtain ⟨x, h3, h4⟩ := he.2 t v hg
      rw [h3]; simp [Act.eval, Array.getD_eq_getD_getElem?, h4]
  · obtain ⟨v, h1, h2⟩ := evK_some h
    refine ⟨some v, fun m n a he u hu => ?_, h2⟩
    cases hu
    obtain ⟨y, h3, h4⟩ := h1 m n a he
    rw [h4]; exact h3
theorem evoL_some : ∀ {xs : List Operand} {k : List (Option Value) → Option ρ}, evoL xs env k = some r → ∃ vs, (∀ (m : Ren) (n : Nat) (a : Act), EnvR m env n a.tmps → ArgR m vs (xs.map a.eval)) ∧ k vs = some r
  | [], k, h => ⟨[], fun m n a he => rfl, h⟩
  | x :: xs, k, h => by
    obtain ⟨ov, h1, h2⟩ := evoK_some (show evoK x env (fun v => evoL xs env fun vs => k (v :: vs)) = some r from h)
    obtain ⟨vs, h3, h4⟩ := evoL_some h2
    exact ⟨ov :: vs, fun m n a he => ⟨_, _, rfl, h1 m n a he, h3 m n a he⟩, h4⟩

theorem guardK_some {g : Option (Nat × Bool)} {k : Bool → Option ρ} (h : guardK ops g env k = some r) : ∃ b, k b = some r ∧ ∀ (m : Ren) (n : Nat) (a : Act) (o : Oper), o.guard = g → EnvR m env n a.tmps → Region.wanted o (yielded ops.toArray a.tmps) = b := by
  unfold guardK at h
  split at h
  · exact ⟨true, h, fun m n a o ho he => by simp [Region.wanted, ho]⟩
  · rename_i j b
    obtain ⟨oj, h1, h⟩ := nthK_some h
    split at h
    · cases h
    · rename_i t ht
      obtain ⟨v, h2, h⟩ := getK_some h
      have hy : ∀ m n (a : Act), EnvR m env n a.tmps → ∃ x, tr m v = some x ∧ yielded ops.toArray a.tmps j = (match some x with | some (Value.bool b) => some b | _ => none) := fun m n a he => by
        obtain ⟨x, h3, h4⟩ := he.2 t v h2
        refine ⟨x, h3, ?_⟩
        unfold yielded
        simp only [List.getElem?_toArray, h1, ht, h4, Option.bind_some]
        cases x <;> rfl
      split at h
      · rename_i c
        have hw : ∀ m n (a : Act) (o : Oper), o.guard = some (j, b) → EnvR m env n a.tmps → Region.wanted o (yielded ops.toArray a.tmps) = (c == b) := fun m n a o ho he => by
          obtain ⟨x, h3, h4⟩ := hy m n a he
          simp only [tr, Option.some.injEq] at h3; subst h3
          simp [Region.wanted, ho, h4]
        split at h
        · exact ⟨true, h, fun m n a o ho he => hw m n a o ho he⟩
        · exact ⟨true, h, fun m n a o ho he => hw m n a o ho he⟩
        · rename_i hn1 hn2
          refine ⟨false, h, fun m n a o ho he => ?_⟩
          rw [hw m n a o ho he]
          cases c <;> cases b <;> simp at hn1 hn2 ⊢
      · refine ⟨false, h, fun m n a o ho he => ?_⟩
        obtain ⟨x, h3, h4⟩ := hy m n a he
        simp only [tr, trL, Option.some.injEq] at h3; subst h3
        simp [Region.wanted, ho, h4]
      · cases h

/-- an operation that is carried out -/
def RunOK (P : Program) (o : Oper) (n : Nat) (env : T Value) (H LS : AHeap) (nx : Nat) (env' : T Value) (H' LS' : AHeap) (nx' : Nat) : Prop :=
  (nx ≤ nx' ∧ SB o.dst env env') ∧ ∀ (m : Ren) (a : Act) (w w0 : World) (F : List Res) (K : Value → World → Prop), EnvR m env n a.tmps → MemR w0 F m H LS nx w →
    (∀ m' x w', m.ext nx m' → EnvR m' env' n (a.put o.dst x).tmps → MemR w0 F m' H' LS' nx' w' → K x w') → UpOK P K ((execOp a.eval o).run P w)
theorem opR_some (hc : CfOK P cf) (hd : ∀ t, o.dst = some t → t < n) (hl : LOK LS) (h : opR o.op cf cv o.dst env H LS nx k = some r) : ∃ env' H' LS' nx', RunOK P o n env H LS nx env' H' LS' nx' ∧ LOK LS' ∧ k env' H' LS' nx' = some r := by
  obtain ⟨v, h1, h⟩ := rdF_some (P := P) hc.X hc.E h o.type
  obtain ⟨env', ⟨hsb, h2⟩, h⟩ := dstK_some (n := n) h hd
  refine ⟨env', H, LS, nx, ⟨⟨Nat.le_refl _, hsb⟩, fun m a w w0 F K he hm hk => ?_⟩, hl, h⟩
  obtain ⟨x, h3, h4⟩ := h1 m n a w0 w _ he hm.2
  rw [h4 o rfl rfl]
  exact hk m x w (Ren.ext_refl m _) (h2 m a x he h3) hm
theorem opW_some (hc : CfOK P cf) (hd : ∀ t, o.dst = some t → t < n) (hl : LOK LS) (h : opW o.op cf cv o.dst env H LS nx k = some r) : ∃ env' H' LS' nx', RunOK P o n env H LS nx env' H' LS' nx' ∧ LOK LS' ∧ k env' H' LS' nx' = some r := by
  obtain ⟨ov, H', nx', h1, h⟩ := wrF_some (P := P) hc.X h o.type
  obtain ⟨hn, h⟩ := ckK_some h
  obtain ⟨env', ⟨hsb, h2⟩, h⟩ := dstK_some (n := n) h hd
  refine ⟨env', H', LS, nx', ⟨⟨Nat.le_of_ble_eq_true hn, hsb⟩, fun m a w w0 F K he hm hk => ?_⟩, hl, h⟩
  obtain ⟨m', w', h3, h4, h5, x, h6, h7⟩ := h1 m n a w0 w _ he hm.1 hm.2
  rw [h7 o rfl rfl]
  have hle := h3.le hm.1
  have hm' : MemR w0 F m' H' LS nx' w' := MemR.of h4 hle h5
  cases ov with
  | none =>
    have h6 : x = .skip := h6
    subst h6
    exact hk m' undef w' h3 (h2 m' a undef (he.mono hle) (tr_undef m')) hm'
  | some v =>
    obtain ⟨u, h8, rfl⟩ := h6
    exact hk m' u w' h3 (h2 m' a u (he.mono hle) h8) hm'
theorem upOK_cast {K : Value → World → Prop} {s s' : Result Next} (h : s = s') (u : UpOK P K s') : UpOK P K s := h ▸ u
theorem opC_some (hc : CfOK P cf) (hcv : CvSound P cv) {c : Call} (ho : o.op = .call c) (hd : ∀ t, o.dst = some t → t < n) (hl : LOK LS) (h : opC c cf cv o.dst env H LS nx k = some r) : ∃ env' H' LS' nx', RunOK P o n env H LS nx env' H' LS' nx' ∧ LOK LS' ∧ k env' H' LS' nx' = some r := by
  unfold opC at h
  split at h
  · rename_i b as ts
    split at h <;> first | exact opR_some hc hd hl (by rw [ho]; exact h) | exact opW_some hc hd hl (by rw [ho]; exact h)
  · rename_i f as ts
    obtain ⟨fv, h1, h⟩ := evK_some h
    obtain ⟨vs, h2, h⟩ := evoL_some h
    obtain ⟨v, H', LS', nx', h3, hl', h⟩ := hcv _ _ _ _ _ _ _ hl h
    obtain ⟨env', ⟨hsb, h4⟩, h⟩ := dstK_some (n := n) h hd
    refine ⟨env', H', LS', nx', ⟨⟨h3.1, hsb⟩, fun m a w w0 F K he hm hk => ?_⟩, hl', h⟩
    obtain ⟨fx, h5, h6⟩ := h1 m n a he
    have h7 := h3.2 m w w0 F fx _ K h5 (h2 m n a he) hm fun m' x w' h8 h9 h10 => hk m' x w' h8 (h4 m' a x (he.mono (h8.le hm.1)) h9) h10
    refine upOK_cast ?_ h7
    unfold execOp; rw [ho]
    simp [resolve, h6, callSem]
  · rename_i x s as ts
    obtain ⟨xv, h1, h⟩ := evK_some h
    split at h
    · rename_i t u
      split at h
      · rename_i g hg
        obtain ⟨vs, h2, h⟩ := evoL_some h
        obtain ⟨v, H', LS', nx', h3, hl', h⟩ := hcv _ _ _ _ _ _ _ hl h
        obtain ⟨env', ⟨hsb, h4⟩, h⟩ := dstK_some (n := n) h hd
        refine ⟨env', H', LS', nx', ⟨⟨h3.1, hsb⟩, fun m a w w0 F K he hm hk => ?_⟩, hl', h⟩
        obtain ⟨xx, h5, h6⟩ := h1 m n a he
        simp only [tr] at h5
        split at h5
        · rename_i y hy
          cases h5
          have h7 := h3.2 m w w0 F (.func (.func g) ⟨[]⟩ ⟨[]⟩) (y :: as.map a.eval) K (by simp only [tr, trF, trL]) ⟨_, _, rfl, fun v hv => by cases hv; exact hy, h2 m n a he⟩ hm fun m' x w' h8 h9 h10 => hk m' x w' h8 (h4 m' a x (he.mono (h8.le hm.1)) h9) h10
          refine upOK_cast ?_ h7
          unfold execOp; rw [ho]
          have := hc.meth _ _ _ hg y (as.map a.eval).toArray w
          simp [resolve, h6, callSem, Deferred.ofValue, invoke] at this ⊢
          rw [List.take_of_length_le (by simp)]
          exact this
        · cases h5
      · cases h
    · cases h
theorem opG_some (hc : CfOK P cf) (hcv : CvSound P cv) (hd : ∀ t, o.dst = some t → t < n) (hl : LOK LS) (h : opG o.op cf cv o.dst env H LS nx k = some r) : ∃ env' H' LS' nx', RunOK P o n env H LS nx env' H' LS' nx' ∧ LOK LS' ∧ k env' H' LS' nx' = some r := by
  have key : ∀ op, o.op = op → opG op cf cv o.dst env H LS nx k = some r → ∃ env' H' LS' nx', RunOK P o n env H LS nx env' H' LS' nx' ∧ LOK LS' ∧ k env' H' LS' nx' = some r := by
    intro op ho h
    unfold opG at h
    split at h <;> first | exact opC_some hc hcv ho hd hl h | exact opW_some hc hd hl (by rw [ho]; exact h) | exact opR_some hc hd hl (by rw [ho]; exact h)
  exact key _ rfl h
theorem UpOK.ok {K : Value → World → Prop} {res : Result Next} (h : UpOK P K res) : ∃ x w, res = .ok x w ∧ ∀ d, x ≠ .defer d := by
  cases res with
  | halt x w => cases h
  | ok x w => exact ⟨x, w, rfl, fun d hx => by subst hx; cases h⟩
theorem opK_some (hc : CfOK P cf) (hcv : CvSound P cv) (hd : ∀ t, o.dst = some t → t < n) (hl : LOK LS) (h : opK cf cv ops o env H LS nx k = some r) : ∃ env' H' LS' nx', OpOK P ops.toArray o n env H LS nx env' H' LS' nx' ∧ LOK LS' ∧ k env' H' LS' nx' = some r := by
  obtain ⟨b, h, hw⟩ := guardK_some h
  cases b with
  | false =>
    obtain ⟨env', ⟨hsb, h2⟩, h⟩ := dstK_some (n := n) (show dstK o.dst undef env (fun env => k env H LS nx) = some r from h) hd
    refine ⟨env', H, LS, nx, ⟨⟨Nat.le_refl _, hsb⟩, fun m a w w0 F rr q K he hm hk => ?_⟩, hl, h⟩
    unfold Wp1
    rw [if_neg (by rw [hw m n a o rfl he]; simp)]
    exact ⟨fun _ _ => trivial, hk m undef w (Ren.ext_refl m _) (h2 m a undef he (tr_undef m)) hm⟩
  | true =>
    obtain ⟨env', H', LS', nx', h2, hl', h⟩ := opG_some hc hcv hd hl (show opG o.op cf cv o.dst env H LS nx k = some r from h)
    refine ⟨env', H', LS', nx', ⟨h2.1, fun m a w w0 F rr q K he hm hk => ?_⟩, hl', h⟩
    unfold Wp1
    rw [if_pos (hw m n a o rfl he)]
    have h3 := h2.2 m a w w0 F (fun x w' => K (a.put o.dst x) w') he hm hk
    obtain ⟨x, w1, h4, h5⟩ := h3.ok
    refine ⟨fun _ _ => trivial, ?_⟩
    rw [Oper.semAt_eq _ _ _ (not_defer h4 h5)]
    exact h3.upon fun v w' hv => hv
end
end Go.Gsl

namespace Go.Gsl
set_option linter.unusedVariables false

/-! ### values that are the same -/
noncomputable def beqN (a b : Option Nat) : Bool := match a, b with
  | some x, some y => Nat.beq x y
  | none, none => true
  | _, _ => false
theorem beqN_eq {a b : Option Nat} (h : beqN a b = true) : a = b := by
  unfold beqN at h
  split at h
  · rw [Nat.eq_of_beq_eq_true h]
  · rfl
  · cases h
noncomputable def eqA (a b : Option Addr) : Bool := match a, b with
  | some ⟨x, i, none⟩, some ⟨y, j, none⟩ => Nat.beq x y && Nat.beq i j
  | none, none => true
  | _, _ => false
theorem eqA_eq {a b : Option Addr} (h : eqA a b = true) : a = b := by
  unfold eqA at h
  split at h
  · simp only [Bool.and_eq_true] at h
    rw [Nat.eq_of_beq_eq_true h.1, Nat.eq_of_beq_eq_true h.2]
  · rfl
  · cases h
noncomputable def eqV0 (a b : Value) : Bool := match a, b with
  | .int k x, .int k' y => Nat.beq (kdN k) (kdN k') && eqI x y
  | .bool x, .bool y => (match x, y with
    | true, true => true
    | false, false => true
    | _, _ => false)
  | .string ⟨⟨x⟩⟩, .string ⟨⟨y⟩⟩ => eqBs x y
  | .pointer x, .pointer y => eqA x y
  | .slice x l c, .slice y l' c' => eqA x y && Nat.beq l l' && Nat.beq c c'
  | .map x, .map y => beqN x y
  | .nilFunc, .nilFunc => true
  | .nilIface, .nilIface => true
  | _, _ => false
theorem eqV0_eq {a b : Value} (h : eqV0 a b = true) : a = b := by
  unfold eqV0 at h
  split at h
  · simp only [Bool.and_eq_true] at h
    rw [kdN_inj h.1]
    have := h.2
    rw [eqI_eq] at this
    rw [of_decide_eq_true this]
  · split at h <;> first | rfl | cases h
  · rw [eqBs_eq] at h; rw [of_decide_eq_true h]
  · rw [eqA_eq h]
  · simp only [Bool.and_eq_true] at h
    rw [eqA_eq h.1.1, Nat.eq_of_beq_eq_true h.1.2, Nat.eq_of_beq_eq_true h.2]
  · rw [beqN_eq h]
  · rfl
  · rfl
  · cases h
noncomputable def eqVL (a : List Value) : List Value → Bool :=
  List.rec (motive := fun _ => List Value → Bool) (fun b => match b with
    | [] => true
    | _ => false) (fun x _ ih b => match b with
    | y :: b => eqV0 x y && ih b
    | [] => false) a
theorem eqVL_eq : ∀ {a b : List Value}, eqVL a b = true → a = b
  | [], [], _ => rfl
  | [], _ :: _, h => by cases h
  | _ :: _, [], h => by cases h
  | x :: a, y :: b, h => by
    have h : (eqV0 x y && eqVL a b) = true := h
    simp only [Bool.and_eq_true] at h
    rw [eqV0_eq h.1, eqVL_eq h.2]
noncomputable def eqV (a b : Value) : Bool := match a, b with
  | .agg ⟨x⟩, .agg ⟨y⟩ => eqVL x y
  | .tuple ⟨x⟩, .tuple ⟨y⟩ => eqVL x y
  | .iface t x, .iface t' y => Nat.beq t t' && eqV0 x y
  | x, y => eqV0 x y
theorem eqV_eq {a b : Value} (h : eqV a b = true) : a = b := by
  unfold eqV at h
  split at h
  · rw [eqVL_eq h]
  · rw [eqVL_eq h]
  · simp only [Bool.and_eq_true] at h
    rw [Nat.eq_of_beq_eq_true h.1, eqV0_eq h.2]
  · exact eqV0_eq h

/-! ### the run -/
/-- what was read ahead of its turn -/
structure Fact where
  i : Nat
  op : Op
  ty : TypeId
  env : T Value
  v : Value
/-- a block that may lie already -/
structure PD where
  i : Nat
  d : Nat
  kk : Nat
  v : Value
  H1 : AHeap
  ob : AObj
section
variable {ρ : Type}
noncomputable def recheck (cf : Cf) (fs : List Fact) : AHeap → Option ρ → Option ρ :=
  List.rec (motive := fun _ => AHeap → Option ρ → Option ρ) (fun _ k => k) (fun f _ ih H k => rdF f.op cf.X cf.E f.env H fun v => ckK (eqV f.v v) (ih H k)) fs
noncomputable def fgK (i : Nat) (fs : List Fact) : List Fact := List.rec (motive := fun _ => List Fact) [] (fun f _ ih => Bool.rec (motive := fun _ => List Fact) (f :: ih) ih (Nat.beq f.i i)) fs
noncomputable def findPd (i : Nat) (pd : List PD) : (PD → List PD → Option ρ) → Option ρ :=
  List.rec (motive := fun _ => (PD → List PD → Option ρ) → Option ρ) (fun _ => none) (fun p ps ih k => Bool.rec (motive := fun _ => Option ρ) (ih fun q ps' => k q (p :: ps')) (k p ps) (Nat.beq p.i i)) pd
abbrev DrK (ρ : Type) := List Fact → List PD → T Value → AHeap → AHeap → Nat → (T Value → AHeap → AHeap → Nat → Option ρ) → Option ρ
noncomputable def stepIt (it : It) : Cf → CallV ρ → List Oper → DrK ρ → DrK ρ := match it with
  | .rd i => fun cf cv ops ih fs pd env H LS nx k => nthK ops i fun o => guardK ops o.guard env fun b => Bool.rec (motive := fun _ => Option ρ) (dstK o.dst undef env fun env => ih fs pd env H LS nx k)
      (rdF o.op cf.X cf.E env .lf fun v => dstK o.dst v env fun env => ih fs pd env H LS nx k) b
  | .ld i => fun cf cv ops ih fs pd env H LS nx k => nthK ops i fun o => guardK ops o.guard env fun b => Bool.rec (motive := fun _ => Option ρ) (dstK o.dst undef env fun env => ih fs pd env H LS nx k)
      (rdF o.op cf.X cf.E env H fun v => dstK o.dst v env fun env' => ih (⟨i, o.op, o.type, env, v⟩ :: fs) pd env' H LS nx k) b
  | .eff i => fun cf cv ops ih fs pd env H LS nx k => recheck cf fs H (nthK ops i fun o => opK cf cv ops o env H LS nx fun env H LS nx => ih fs pd env H LS nx k)
  | .pend i => fun cf cv ops ih fs pd env H LS nx k => nthK ops i fun o => match o.guard, o.dst with
    | none, some d => T.put none env d fun env1 => wrF o.op cf.X env .lf nx fun ov H1 nx1 => match ov with
      | some v => ckK (Nat.beq nx1 (Nat.succ nx)) (getK H1 nx fun ob => ih fs (⟨i, d, nx, v, H1, ob⟩ :: pd) env1 H LS nx1 k)
      | none => none
    | _, _ => none
  | .mrg i => fun cf cv ops ih fs pd env H LS nx k => recheck cf fs H (findPd i pd fun p pd' => T.put (some p.v) env p.d fun env1 => T.put (some p.ob) H p.kk fun H1 => ih fs pd' env1 H1 LS nx k)
  | .fg i _ => fun _ _ _ ih fs pd env H LS nx k => ih (fgK i fs) pd env H LS nx k
noncomputable def drK (cf : Cf) (cv : CallV ρ) (ops : List Oper) (its : List It) : DrK ρ :=
  List.rec (motive := fun _ => DrK ρ) (fun fs pd env H LS nx k => match pd with
    | [] => recheck cf fs H (k env H LS nx)
    | _ => none) (fun it _ ih => stepIt it cf cv ops ih) its
end

/-! ### what is listed -/
theorem withB_set (ps : List Nat) : ∀ (l : Array Bool) (i : Nat), (withB l ps).setIfInBounds i true = withB (l.setIfInBounds i true) ps := by
  induction ps with
  | nil => intro l i; rfl
  | cons p ps ih =>
    intro l i
    show (withB (l.setIfInBounds p true) ps).setIfInBounds i true = withB ((l.setIfInBounds i true).setIfInBounds p true) ps
    rw [ih]
    congr 1
    by_cases h : p = i
    · subst h; rfl
    · exact Array.setIfInBounds_comm _ _ h
theorem withB_cons (l : Array Bool) (i : Nat) (ps : List Nat) : withB l (i :: ps) = (withB l ps).setIfInBounds i true := by
  rw [withB_set]; rfl
theorem withB_size (ps : List Nat) : ∀ (l : Array Bool), (withB l ps).size = l.size := by
  induction ps with
  | nil => intro l; rfl
  | cons p ps ih => intro l; rw [withB_cons, Array.size_setIfInBounds, ih]
theorem withB_un {l : Array Bool} {j : Nat} : ∀ {ps : List Nat}, (withB l ps).getD j true = false ↔ l.getD j true = false ∧ j ∉ ps
  | [] => by simp [withB]
  | p :: ps => by
    rw [withB_cons]
    by_cases h : p = j
    · subst h
      constructor
      · intro hx
        exfalso
        by_cases hl : p < (withB l ps).size
        · simp [Array.getD, hl] at hx
        · simp [Array.getD, hl] at hx
      · intro hx; exact absurd List.mem_cons_self hx.2
    · rw [getD_set_ne true h, withB_un (ps := ps)]
      simp [h, Ne.symm h]
theorem withB_on {l : Array Bool} {j : Nat} : ∀ {ps : List Nat}, (withB l ps).getD j false = true ↔ l.getD j false = true ∨ (j ∈ ps ∧ j < l.size)
  | [] => by simp [withB]
  | p :: ps => by
    rw [withB_cons]
    by_cases h : p = j
    · subst h
      by_cases hl : p < l.size
      · have : ((withB l ps).setIfInBounds p true).getD p false = true := by simp [Array.getD, withB_size, hl]
        simp [this, hl]
      · have h1 : l.getD p false = false := by simp [Array.getD, hl]
        have h2 : ((withB l ps).setIfInBounds p true).getD p false = false := by simp [Array.getD, withB_size, hl]
        simp [h1, h2, hl]
    · rw [getD_set_ne false h, withB_on (ps := ps)]
      simp [Ne.symm h]
theorem ready_withB {ops : Array Oper} {md : Region.Mode} {l : Array Bool} {E ps : List Nat} {j : Nat} (hE : ∀ i ∈ E, i ∈ ps) (h : j ∈ Region.ready md ops (withB l E)) : j ∉ E ∧ (j ∈ ps ∨ j ∈ Region.ready md ops (withB l ps)) := by
  obtain ⟨h1, o, ho, h2⟩ := mem_ready.1 h
  obtain ⟨h3, h4⟩ := withB_un.1 h1
  refine ⟨h4, ?_⟩
  by_cases hp : j ∈ ps
  · exact .inl hp
  · refine .inr (mem_ready.2 ⟨withB_un.2 ⟨h3, hp⟩, o, ho, fun e he hb => ?_⟩)
    rcases withB_on.1 (h2 e he hb) with h5 | ⟨h5, h6⟩
    · exact withB_on.2 (.inl h5)
    · exact withB_on.2 (.inr ⟨hE _ h5, h6⟩)
theorem ready_up {ops : Array Oper} {md : Region.Mode} {l : Array Bool} {E : List Nat} {j : Nat} (h : j ∈ Region.ready md ops l) (hn : j ∉ E) : j ∈ Region.ready md ops (withB l E) := by
  obtain ⟨h1, o, ho, h2⟩ := mem_ready.1 h
  exact mem_ready.2 ⟨withB_un.2 ⟨h1, hn⟩, o, ho, fun e he hb => withB_on.2 (.inl (h2 e he hb))⟩
/-- what may be drawn at any time, beside all that is not listed -/
def FreeS (ops : Array Oper) (l : Array Bool) (i : Nat) : Prop := ∀ oi, ops[i]? = some oi → ∀ j oj, ops[j]? = some oj → j ≠ i → l.getD j true = false → (∀ e ∈ oj.after, Region.binds .any e = true → e.on ≠ i) → oi.apart ops oj = true
theorem FreeS.of {ops : Array Oper} {l : Array Bool} {i : Nat} (h : Region.free .any ops l i = true) : FreeS ops l i := fun oi hi => Region.free_spec hi h
theorem FreeS.up {ops : Array Oper} {l : Array Bool} {i : Nat} (h : FreeS ops l i) (k : Nat) : FreeS ops (l.setIfInBounds k true) i := fun oi hi j oj hj hne hu hb =>
  h oi hi j oj hj hne (by
    by_cases hk : k = j
    · subst hk
      exfalso
      by_cases hl : k < l.size
      · simp [Array.getD, hl] at hu
      · simp [Array.getD, hl] at hu
    · rwa [getD_set_ne true hk] at hu) hb
theorem FreeS.withB {ops : Array Oper} {l : Array Bool} {i : Nat} {E : List Nat} (h : FreeS ops l i) : FreeS ops (withB l E) i := fun oi hi j oj hj hne hu hb => h oi hi j oj hj hne (withB_un.1 hu).1 hb
theorem not_bind {ops : Array Oper} {md : Region.Mode} {l : Array Bool} {i j : Nat} {oj : Oper} (h : j ∈ Region.ready md ops l) (hj : ops[j]? = some oj) (hi : l.getD i true = false) : ∀ e ∈ oj.after, Region.binds md e = true → e.on ≠ i := by
  intro e he hb heq
  obtain ⟨_, o, ho, h2⟩ := mem_ready.1 h
  rw [hj] at ho; cases ho
  have h3 := h2 e he hb
  rw [heq] at h3
  by_cases hl : i < l.size
  · simp [Array.getD, hl] at hi h3; rw [hi] at h3; cases h3
  · simp [Array.getD, hl] at h3
theorem oneR_spec {l : List Nat} {i : Nat} (h : oneR l i = true) : l = [i] := by
  unfold oneR at h
  split at h
  · rw [Nat.eq_of_beq_eq_true h]
  · cases h
theorem isOut_spec {ps : List Nat} {i : Nat} (h : isOut ps i = true) : i ∉ ps := by
  intro hi
  have := (List.all_eq_true.1 h) i hi
  simp at this

/-! ### whatever order, each world on the way being of a class -/
/-- j waits for i, at once or through others -/
inductive Dep (md : Region.Mode) (ops : Array Oper) (i : Nat) : Nat → Prop
  | one (j : Nat) (o : Oper) (e : Edge) (h1 : ops[j]? = some o) (h2 : e ∈ o.after) (h3 : Region.binds md e = true) (h4 : e.on = i) : Dep md ops i j
  | step (j : Nat) (o : Oper) (e : Edge) (h1 : ops[j]? = some o) (h2 : e ∈ o.after) (h3 : Region.binds md e = true) (h4 : Dep md ops i e.on) : Dep md ops i j
/-- nothing that is listed, and never taken out of its turn, waits for it -/
def Alive (md : Region.Mode) (ops : Array Oper) (i : Nat) (l : Array Bool) : Prop := ∀ j, Dep md ops i j → effAt ops j = true → l.getD j false = false
/-- what is listed waits for nothing but what is listed -/
def Closed (md : Region.Mode) (ops : Array Oper) (l : Array Bool) : Prop := ∀ (j : Nat) (oj : Oper), ops[j]? = some oj → l.getD j false = true → ∀ e ∈ oj.after, Region.binds md e = true → l.getD e.on false = true
theorem on_set {l : Array Bool} {i j : Nat} (h : (l.setIfInBounds i true).getD j false = true) : l.getD j false = true ∨ j = i := by
  by_cases hij : i = j
  · exact .inr hij.symm
  · rw [getD_set_ne false hij] at h; exact .inl h
theorem set_on {l : Array Bool} {i j : Nat} (h : l.getD j false = true) : (l.setIfInBounds i true).getD j false = true := by
  by_cases hij : i = j
  · subst hij
    by_cases hl : i < l.size
    · simp [Array.getD, hl]
    · simp [Array.getD, hl] at h
  · rw [getD_set_ne false hij]; exact h
theorem Closed.step {md : Region.Mode} {ops : Array Oper} {l : Array Bool} {i : Nat} (h : Closed md ops l) (hr : i ∈ Region.ready md ops l) : Closed md ops (l.setIfInBounds i true) := fun j oj hj hl e he hb => by
  rcases on_set hl with hl | rfl
  · exact set_on (h j oj hj hl e he hb)
  · obtain ⟨_, o, ho, h2⟩ := mem_ready.1 hr
    rw [hj] at ho; cases ho
    exact set_on (h2 e he hb)
theorem un_on {l : Array Bool} {i : Nat} (h : l.getD i true = false) : l.getD i false = false := by
  by_cases hl : i < l.size
  · simp [Array.getD, hl] at h ⊢; exact h
  · simp [Array.getD, hl] at h
theorem Closed.dep {md : Region.Mode} {ops : Array Oper} {l : Array Bool} {i j : Nat} (h : Closed md ops l) (hd : Dep md ops i j) (hj : l.getD j false = true) : l.getD i false = true := by
  induction hd with
  | one j o e h1 h2 h3 h4 => rw [← h4]; exact h j o h1 hj e h2 h3
  | step j o e h1 h2 h3 h4 ih => exact ih (h j o h1 hj e h2 h3)
theorem Alive.set {md : Region.Mode} {ops : Array Oper} {l : Array Bool} {i k : Nat} (h : Alive md ops i l) (hk : effAt ops k = false) : Alive md ops i (l.setIfInBounds k true) := fun j hd he => by
  cases hl : (l.setIfInBounds k true).getD j false with
  | false => rfl
  | true =>
    rcases on_set hl with hl | rfl
    · rw [h j hd he] at hl; cases hl
    · rw [hk] at he; cases he
theorem Closed.alive {md : Region.Mode} {ops : Array Oper} {l : Array Bool} {i : Nat} (h : Closed md ops l) (hr : i ∈ Region.ready md ops l) : Alive md ops i l := fun j hd _ => by
  cases hl : l.getD j false with
  | false => rfl
  | true =>
    have h1 := h.dep hd hl
    rw [un_on (mem_ready.1 hr).1] at h1; cases h1
/-- Whatever order is picked from here on, each world on the way being of the class of what is listed. -/
def wpAnyL (r : Option Nat) (P : Program) (md : Region.Mode) (ops : Array Oper) (C : Array Bool → World → Prop) (Q : Exit → Act → World → Prop) : Nat → Array Bool → Act → World → Prop
  | 0, listed, a, w => C listed w ∧ Region.ready md ops listed = [] ∧ Q .normal a w
  | fuel + 1, listed, a, w =>
    C listed w ∧ (Region.ready md ops listed = [] → Q .normal a w) ∧
    ∀ i ∈ Region.ready md ops listed, wpOpIn (fz r) 0 P ops Q i (wpAnyL r P md ops C Q fuel (listed.setIfInBounds i true)) a w
section
variable {P : Program} {ops : Array Oper} {Q : Exit → Act → World → Prop} {md : Region.Mode} {C C' : Array Bool → World → Prop} {r : Option Nat}
theorem wpAnyL.cls {fuel : Nat} {listed : Array Bool} {a : Act} {w : World} (h : wpAnyL r P md ops C Q fuel listed a w) : C listed w := by
  cases fuel with
  | zero => exact h.1
  | succ f => exact h.1
theorem wpAny_of_L : ∀ (fuel : Nat) (listed : Array Bool) (a : Act) (w : World), wpAnyL r P md ops C Q fuel listed a w → wpAnyIn (fz r) 0 P md ops Q fuel listed a w
  | 0, _, _, _, h => h.2
  | fuel + 1, _, _, _, h => ⟨h.2.1, fun i hi => wpOpIn_mono (fun a' w' => wpAny_of_L fuel _ a' w') (h.2.2 i hi)⟩
theorem wpAnyL_cls : ∀ (fuel : Nat) (listed : Array Bool) (a : Act) (w : World), (∀ l' w, (∀ j, listed.getD j false = true → l'.getD j false = true) → C l' w → C' l' w) →
    wpAnyL r P md ops C Q fuel listed a w → wpAnyL r P md ops C' Q fuel listed a w
  | 0, listed, _, w, h, hh => ⟨h listed w (fun _ h => h) hh.1, hh.2⟩
  | fuel + 1, listed, _, w, h, hh => ⟨h listed w (fun _ h => h) hh.1, hh.2.1, fun i hi => wpOpIn_mono (fun a' w' => wpAnyL_cls fuel _ a' w' fun l' w hl => h l' w fun j hj => hl j (set_on hj)) (hh.2.2 i hi)⟩
theorem wpAnyL_first {i : Nat} {oi : Oper} {v : Value} (hi : ops[i]? = some oi) (hsel : ∀ (j : Nat) (o : Oper) cs b, ops[j]? = some o → o.op ≠ .select cs b) (hdef : ∀ (j : Nat) (o : Oper) c, ops[j]? = some o → o.op ≠ .defer c)
    (hQ : ∀ c a w, Q (.panic c) (a.put oi.dst v) w → Q (.panic c) a w) (heff : effAt ops i = false) :
    ∀ (fuel : Nat) (listed : Array Bool) (a : Act) (w : World),
      (∀ j oj, ops[j]? = some oj → j ≠ i → listed.getD j true = false → (∀ e ∈ oj.after, Region.binds md e = true → e.on ≠ i) → oi.apart ops oj = true) →
      i ∈ Region.ready md ops listed → Closed md ops listed → YieldsR P ops (fun w => ∃ l', Alive md ops i l' ∧ C l' w) oi v a →
      wpAnyL r P md ops C Q fuel (listed.setIfInBounds i true) (a.put oi.dst v) w → wpAnyL r P md ops (fun l w => C (l.setIfInBounds i true) w) Q (fuel + 1) listed a w := by
  intro fuel
  induction fuel with
  | zero =>
    intro listed a w _ hr ha hy H
    refine ⟨H.cls, fun h => (by rw [h] at hr; cases hr), fun j hj => ?_⟩
    by_cases hji : j = i
    · subst hji
      refine hy.wpOp hi (fun c => hdef _ _ c hi) ⟨_, (ha.alive hr).set heff, H.cls⟩ (wpAnyL_cls _ _ _ _ (fun l' w hl h => ?_) H)
      have : l'.setIfInBounds j true = l' := by
        apply Array.ext_getElem?; intro k
        by_cases hk : j = k
        · subst hk
          have hs : j < listed.size := by
            have := (mem_ready.1 hr).1
            by_cases hl : j < listed.size
            · exact hl
            · simp [Array.getD, hl] at this
          have h1 := hl j (by simp [Array.getD, hs])
          by_cases hl' : j < l'.size
          · simp [Array.getD, hl'] at h1; simp [hl', h1]
          · simp [Array.getD, hl'] at h1
        · rw [Array.getElem?_setIfInBounds_ne hk]
      rw [this]; exact h
    · have := ready_mono hj hji
      rw [H.2.1] at this
      cases this
  | succ fuel ih =>
    intro listed a w hfree hr ha hy H
    refine ⟨H.cls, fun h => (by rw [h] at hr; cases hr), fun j hj => ?_⟩
    by_cases hji : j = i
    · subst hji
      refine hy.wpOp hi (fun c => hdef _ _ c hi) ⟨_, (ha.alive hr).set heff, H.cls⟩ (wpAnyL_cls _ _ _ _ (fun l' w hl h => ?_) H)
      have : l'.setIfInBounds j true = l' := by
        apply Array.ext_getElem?; intro k
        by_cases hk : j = k
        · subst hk
          have hs : j < listed.size := by
            have := (mem_ready.1 hr).1
            by_cases hl : j < listed.size
            · exact hl
            · simp [Array.getD, hl] at this
          have h1 := hl j (by simp [Array.getD, hs])
          by_cases hl' : j < l'.size
          · simp [Array.getD, hl'] at h1; simp [hl', h1]
          · simp [Array.getD, hl'] at h1
        · rw [Array.getElem?_setIfInBounds_ne hk]
      rw [this]; exact h
    · have h1 := H.2.2 j (ready_mono hj hji)
      obtain ⟨hjun, oj, hoj, hall⟩ := mem_ready.1 hj
      have hnot : ∀ e ∈ oj.after, Region.binds md e = true → e.on ≠ i := not_bind hj hoj (mem_ready.1 hr).1
      have h2 := wpOp_putR hoj (hfree j oj hoj hji hjun hnot) (fun cs b => hsel i oi cs b hi) (fun cs b => hsel j oj cs b hoj) (fun c => hdef j oj c hoj) hQ hy h1
      have hfree' : ∀ k ok, ops[k]? = some ok → k ≠ i → (listed.setIfInBounds j true).getD k true = false →
          (∀ e ∈ ok.after, Region.binds md e = true → e.on ≠ i) → oi.apart ops ok = true := fun k ok hk hki hun hno => by
        refine hfree k ok hk hki ?_ hno
        by_cases hjk : j = k
        · subst hjk; exact hjun
        · rw [getD_set_ne true hjk] at hun; exact hun
      refine wpOpIn_mono (fun a' w' h3 => ih (listed.setIfInBounds j true) a' w' hfree' (ready_mono hr (Ne.symm hji)) (ha.step hj) h3.1 ?_) h2
      rw [Array.setIfInBounds_comm _ _ hji]
      exact h3.2
theorem wpOpIn_of {q : Exit → Act → World → Prop} {F : Fence} {i : Nat} {o : Oper} {K : Act → World → Prop} {a : Act} {w : World} (hi : ops[i]? = some o) (h : Wp1 F P ops q o K a w) : wpOpIn F 0 P ops q i K a w := by
  unfold wpOpIn
  simp only [hi]
  exact h
end
end Go.Gsl

namespace Go.Gsl
set_option linter.unusedVariables false

theorem HEAP_mono {H : AHeap} {m m' : Ren} (hm : m.le m') {h : Hp} (hh : HEAP H m h) : HEAP H m' h :=
  ⟨fun k o hk => by obtain ⟨b, s, r, h1, h2, h3⟩ := hh.1 k o hk; exact ⟨b, s, r, hm.on _ _ h1, h2.mono hm, h3⟩,
    fun k k' o o' x x' h1 h2 h3 h4 h5 => by
      obtain ⟨b, s, r, h6, _⟩ := hh.1 k o h1
      obtain ⟨b', s', r', h7, _⟩ := hh.1 k' o' h2
      rw [hm.on _ _ h6] at h3; cases h3
      rw [hm.on _ _ h7] at h4; cases h4
      exact hh.2 k k' o o' _ _ h1 h2 h6 h7 h5⟩
theorem HEAP_lf (m : Ren) (h : Hp) : HEAP .lf m h := ⟨fun k o hk => (by cases hk), fun k k' o o' x x' hk => (by cases hk)⟩
theorem resAll {A : Type} {f g : A → HProp} {F : List Res} : ∀ {l : List A}, (∀ p ∈ l, ∀ h, f p h → g p h) → Ent (l.map (fun p => (kH, f p)) ++ F) (l.map (fun p => (kH, g p)) ++ F)
  | [], _ => Ent.refl _
  | p :: l, h => (Ent.head (h p List.mem_cons_self)).trans (Ent.cons _ (resAll fun q hq => h q (List.mem_cons_of_mem _ hq)))
/-- the block of one that may lie already -/
def resP (E : List Nat) (m : Ren) (p : PD) : HProp := HEAP (if p.i ∈ E then p.H1 else .lf) m
def resL (E : List Nat) (m : Ren) (pd : List PD) : List Res := pd.map fun p => (kH, resP E m p)
theorem resL_mono {E : List Nat} {m m' : Ren} {pd : List PD} {F : List Res} (hm : m.le m') : Ent (resL E m pd ++ F) (resL E m' pd ++ F) := resAll fun p _ h hh => HEAP_mono hm hh
theorem resL_in {E : List Nat} {m : Ren} {p : PD} {F : List Res} : ∀ {pd : List PD}, p ∈ pd → (pd.map PD.i).Nodup → Ent ((kH, HEAP p.H1 m) :: (resL E m pd ++ F)) (resL (p.i :: E) m pd ++ F)
  | q :: pd, hp, hn => by
    rw [List.map_cons, List.nodup_cons] at hn
    by_cases hq : q = p
    · subst hq
      refine Ent.trans (B := (kH, HEAP q.H1 m) :: (resL E m pd ++ F)) (Ent.cons _ (Ent.drop _ _)) ?_
      refine Ent.trans (B := (kH, resP (q.i :: E) m q) :: (resL E m pd ++ F)) (Ent.head fun h hh => ?_) (Ent.cons _ (resAll fun x hx h hh => ?_))
      · unfold resP; rw [if_pos List.mem_cons_self]; exact hh
      · have hne : x.i ≠ q.i := fun e => hn.1 (by rw [← e]; exact List.mem_map_of_mem hx)
        unfold resP at hh ⊢
        by_cases hE : x.i ∈ E
        · rw [if_pos hE] at hh; rw [if_pos (List.mem_cons_of_mem _ hE)]; exact hh
        · rw [if_neg hE] at hh; rw [if_neg (by simp [hne, hE])]; exact hh
    · have hp' : p ∈ pd := by rcases List.mem_cons.1 hp with h | h; · exact absurd h.symm hq
                              · exact h
      have hne : q.i ≠ p.i := fun e => hn.1 (by rw [e]; exact List.mem_map_of_mem hp')
      refine (Ent.swap _ _ _).trans (Ent.trans (B := (kH, resP (p.i :: E) m q) :: (kH, HEAP p.H1 m) :: (resL E m pd ++ F)) (Ent.head fun h hh => ?_) (Ent.cons _ (resL_in hp' hn.2)))
      unfold resP at hh ⊢
      by_cases hE : q.i ∈ E
      · rw [if_pos hE] at hh; rw [if_pos (List.mem_cons_of_mem _ hE)]; exact hh
      · rw [if_neg hE] at hh; rw [if_neg (by simp [hne, hE])]; exact hh
theorem resL_out {E : List Nat} {m : Ren} {p : PD} {F : List Res} : ∀ {pd1 pd2 : List PD}, ((pd1 ++ p :: pd2).map PD.i).Nodup → p.i ∈ E → Ent (resL E m (pd1 ++ p :: pd2) ++ F) ((kH, HEAP p.H1 m) :: (resL (E.erase p.i) m (pd1 ++ pd2) ++ F))
  | [], pd2, hn, hE => by
    rw [List.nil_append, List.map_cons, List.nodup_cons] at hn
    refine Ent.trans (B := (kH, HEAP p.H1 m) :: (resL E m pd2 ++ F)) (Ent.head fun h hh => ?_) (Ent.cons _ (resAll fun x hx h hh => ?_))
    · unfold resP at hh; rw [if_pos hE] at hh; exact hh
    · have hne : x.i ≠ p.i := fun e => hn.1 (by rw [← e]; exact List.mem_map_of_mem hx)
      unfold resP at hh ⊢
      by_cases h2 : x.i ∈ E
      · rw [if_pos h2] at hh; rw [if_pos ((List.mem_erase_of_ne hne).2 h2)]; exact hh
      · rw [if_neg h2] at hh; rw [if_neg fun h3 => h2 (List.mem_of_mem_erase h3)]; exact hh
  | q :: pd1, pd2, hn, hE => by
    rw [List.cons_append, List.map_cons, List.nodup_cons] at hn
    have hne : q.i ≠ p.i := fun e => hn.1 (by rw [e]; exact List.mem_map_of_mem (by simp))
    refine Ent.trans (B := (kH, resP E m q) :: (kH, HEAP p.H1 m) :: (resL (E.erase p.i) m (pd1 ++ pd2) ++ F)) (Ent.cons _ (resL_out hn.2 hE)) ((Ent.swap _ _ _).trans (Ent.cons _ (Ent.head fun h hh => ?_)))
    unfold resP at hh ⊢
    by_cases h2 : q.i ∈ E
    · rw [if_pos h2] at hh; rw [if_pos ((List.mem_erase_of_ne hne).2 h2)]; exact hh
    · rw [if_neg h2] at hh; rw [if_neg fun h3 => h2 (List.mem_of_mem_erase h3)]; exact hh
theorem heap_join {w0 w : World} {F : List Res} {H H1 H' : AHeap} {m : Ren} {kk : Nat} {ob : AObj} (hs : Sat w0 w ((kH, HEAP H m) :: (kH, HEAP H1 m) :: F)) (h1 : H1.get kk = some ob) (hg : ∀ j, H'.get j = if j = kk then some ob else H.get j) : Sat w0 w ((kH, HEAP H' m) :: F) := by
  obtain ⟨h0, x, hf, y, z, hd, rfl, hH, y2, z2, hd2, rfl, hH1, hF⟩ := hs
  obtain ⟨hd3, hd4⟩ := (hdisj_join hd2).1 hd
  refine ⟨h0, _, hf, hjoin y y2, z2, (hdisj_join_l hd3).2 ⟨hd4, hd2⟩, (hjoin_assoc _ _ _).symm, ⟨fun k o hk => ?_, fun k k' o o' u u' hk hk' hm hm' he => ?_⟩, hF⟩
  · rw [hg] at hk
    by_cases hkk : k = kk
    · subst hkk
      rw [if_pos rfl] at hk; cases hk
      obtain ⟨b, s, r, ha, hb, hc⟩ := hH1.1 k ob h1
      refine ⟨b, s, r, ha, hb, ?_⟩
      rcases hd3 b with h | h | ⟨o, h, h'⟩
      · simp [hjoin, h, hc]
      · rw [hc] at h; cases h
      · rw [hc] at h'; cases h'
    · rw [if_neg hkk] at hk
      obtain ⟨b, s, r, ha, hb, hc⟩ := hH.1 k o hk
      exact ⟨b, s, r, ha, hb, by simp [hjoin, hc]⟩
  · have key : ∀ k k' o o' u u', H1.get k = some o → H.get k' = some o' → m k = some u → m k' = some u' → u.1 ≠ u'.1 := fun k k' o o' u u' h2 h3 h4 h5 h6 => by
      obtain ⟨b, s, r, ha, _, hc⟩ := hH1.1 k o h2
      obtain ⟨b', s', r', ha', _, hc'⟩ := hH.1 k' o' h3
      rw [ha] at h4; cases h4
      rw [ha'] at h5; cases h5
      simp only at h6; subst h6
      rcases hd3 b with h | h | ⟨o, h, h'⟩
      · rw [hc'] at h; cases h
      · rw [hc] at h; cases h
      · rw [hc'] at h; cases h
    rw [hg] at hk hk'
    by_cases e1 : k = kk
    · by_cases e2 : k' = kk
      · rw [e1, e2]
      · rw [if_neg e2] at hk'
        subst e1
        exact absurd he (key k k' _ _ _ _ h1 hk' hm hm')
    · rw [if_neg e1] at hk
      by_cases e2 : k' = kk
      · subst e2
        exact absurd he.symm (key k' k _ _ _ _ h1 hk hm' hm)
      · rw [if_neg e2] at hk'
        exact hH.2 k k' o o' u u' hk hk' hm hm' he

theorem nodup_inj {A B : Type} {f : A → B} : ∀ {l : List A}, (l.map f).Nodup → ∀ {x y : A}, x ∈ l → y ∈ l → f x = f y → x = y
  | a :: l, h, x, y, hx, hy, he => by
    rw [List.map_cons, List.nodup_cons] at h
    rcases List.mem_cons.1 hx with h1 | h1
    · rcases List.mem_cons.1 hy with h2 | h2
      · rw [h1, h2]
      · exact absurd (by rw [← h1, he]; exact List.mem_map_of_mem h2) h.1
    · rcases List.mem_cons.1 hy with h2 | h2
      · exact absurd (by rw [← h2, ← he]; exact List.mem_map_of_mem h1) h.1
      · exact nodup_inj h.2 h1 h2 he
/-! ### facts -/
def FOK (P : Program) (H : AHeap) (fs : List Fact) : Prop := ∀ f ∈ fs, RdOK P f.op f.ty f.env H f.v
def FactsR (m : Ren) : List Fact → List (Nat × Act × Oper × Value) → Prop
  | [], cs => cs = []
  | f :: fs, cs => ∃ a o x n cs', cs = (f.i, a, o, x) :: cs' ∧ o.op = f.op ∧ o.type = f.ty ∧ EnvR m f.env n a.tmps ∧ tr m f.v = some x ∧ FactsR m fs cs'
theorem FactsR.mono {m m' : Ren} (h : m.le m') : ∀ {fs : List Fact} {cs : List (Nat × Act × Oper × Value)}, FactsR m fs cs → FactsR m' fs cs
  | [], _, hf => hf
  | _ :: _, _, ⟨a, o, x, n, cs', h1, h2, h3, h4, h5, h6⟩ => ⟨a, o, x, n, cs', h1, h2, h3, h4.mono h, tr_mono h _ _ h5, h6.mono h⟩
def Cls (P : Program) (ops : Array Oper) (cs : List (Nat × Act × Oper × Value)) (l : Array Bool) (w : World) : Prop := ∀ c ∈ cs, Alive .any ops c.1 l → (execOp c.2.1.eval c.2.2.1).run P w = .ok (.value c.2.2.2) w
theorem cls_of {P : Program} {ops : Array Oper} {l : Array Bool} {H : AHeap} {m : Ren} {w0 w : World} {F : List Res} : ∀ {fs : List Fact} {cs : List (Nat × Act × Oper × Value)}, FOK P H fs → FactsR m fs cs → Sat w0 w ((kH, HEAP H m) :: F) → Cls P ops cs l w
  | [], cs, _, hf, _ => by cases hf; intro c hc; cases hc
  | f :: fs, cs, ho, hf, hs => by
    obtain ⟨a, o, x, n, cs', rfl, h2, h3, h4, h5, h6⟩ := hf
    intro c hc hal
    rcases List.mem_cons.1 hc with rfl | hc
    · obtain ⟨y, h7, h8⟩ := ho f List.mem_cons_self m n a w0 w F h4 hs
      rw [h5] at h7; cases h7
      exact h8 o h2 h3
    · exact cls_of (fun g hg => ho g (List.mem_cons_of_mem _ hg)) h6 hs c hc hal
section
variable {ρ : Type} {P : Program} {cf : Cf} {r : ρ}
theorem recheck_some (hc : CfOK P cf) {H : AHeap} {k : Option ρ} : ∀ {fs : List Fact}, recheck cf fs H k = some r → k = some r ∧ FOK P H fs
  | [], h => ⟨h, fun f hf => (by cases hf)⟩
  | f :: fs, h => by
    obtain ⟨v, h1, h2⟩ := rdF_some (P := P) hc.X hc.E (show rdF f.op cf.X cf.E f.env H (fun v => ckK (eqV f.v v) (recheck cf fs H k)) = some r from h) f.ty
    obtain ⟨h3, h6⟩ := ckK_some h2
    have := eqV_eq h3
    subst this
    obtain ⟨h4, h5⟩ := recheck_some hc h6
    refine ⟨h4, fun g hg => ?_⟩
    rcases List.mem_cons.1 hg with rfl | hg
    · exact h1
    · exact h5 g hg
theorem findPd_some {i : Nat} : ∀ {pd : List PD} {k : PD → List PD → Option ρ}, findPd i pd k = some r → ∃ p pd1 pd2, pd = pd1 ++ p :: pd2 ∧ p.i = i ∧ k p (pd1 ++ pd2) = some r
  | [], k, h => by cases h
  | p :: pd, k, h => by
    have h : Bool.rec (motive := fun _ => Option ρ) (findPd i pd fun q ps' => k q (p :: ps')) (k p pd) (Nat.beq p.i i) = some r := h
    cases hb : Nat.beq p.i i with
    | true => rw [hb] at h; exact ⟨p, [], pd, rfl, Nat.eq_of_beq_eq_true hb, h⟩
    | false =>
      rw [hb] at h
      obtain ⟨q, pd1, pd2, h1, h2, h3⟩ := findPd_some (show findPd i pd (fun q ps' => k q (p :: ps')) = some r from h)
      exact ⟨q, p :: pd1, pd2, by rw [h1]; rfl, h2, h3⟩
end

/-! ### blocks that may lie already -/
/-- what 'pend' has made out -/
def PdW (P : Program) (ops : List Oper) (n : Nat) (p : PD) (envp : T Value) : Prop := ∃ o, ops[p.i]? = some o ∧ o.guard = none ∧ o.dst = some p.d ∧ p.d < n ∧ WrOK P o.op o.type envp .lf p.kk (some p.v) p.H1 (p.kk + 1)
/-- not yet: .. -/
def Late (P : Program) (ops : List Oper) (n : Nat) (m : Ren) (a : Act) (p : PD) : Prop :=
  m p.kk = none ∧ ∃ mp ap envp, Ren.le mp m ∧ MB mp p.kk ∧ EnvR mp envp n (ap : Act).tmps ∧ PdW P ops n p envp ∧ ∀ o, ops[p.i]? = some o → execOp a.eval o = execOp ap.eval o
def PdR (P : Program) (ops : List Oper) (n : Nat) (E : List Nat) (m : Ren) (a : Act) (p : PD) : Prop :=
  (p.i ∈ E ∧ ∃ u, tr m p.v = some u ∧ a.tmps[p.d]? = some u) ∨ (p.i ∉ E ∧ Late P ops n m a p)
/-- the run's list of them -/
structure PdS (ops : List Oper) (n : Nat) (listed : Array Bool) (pd : List PD) (env : T Value) (nx : Nat) : Prop where
  ni : (pd.map PD.i).Nodup
  nk : (pd.map PD.kk).Nodup
  all : ∀ p ∈ pd, p.kk < nx ∧ FreeS ops.toArray listed p.i ∧ p.i ∈ Region.ready .any ops.toArray listed ∧ env.get p.d = none ∧ p.d < n ∧ p.H1.get p.kk = some p.ob ∧ ∃ o, ops[p.i]? = some o ∧ o.dst = some p.d
/-- where the walk stands -/
structure DrS (P : Program) (ops : List Oper) (n : Nat) (pd : List PD) (fs : List Fact) (env : T Value) (H LS : AHeap) (nx : Nat) (m : Ren) (a : Act) (w w0 : World) (F : List Res) (cs : List (Nat × Act × Oper × Value)) (E : List Nat) : Prop where
  ev : EnvR m env n a.tmps
  mb : MB m nx
  sat : Sat w0 w ((kH, HEAP H m) :: (kH, HEAP LS m) :: (resL E m pd ++ F))
  pr : ∀ p ∈ pd, PdR P ops n E m a p
  nd : E.Nodup
  sub : ∀ i ∈ E, i ∈ pd.map PD.i
  fa : FactsR m fs cs
def ExtP (m : Ren) (nx : Nat) (pd : List PD) (m' : Ren) : Prop := m.le m' ∧ ∀ j, j < nx → j ∉ pd.map PD.kk → m' j = m j
def Calm' (q : Exit → Act → World → Prop) : Prop := ∀ c a d v w, q (.panic c) (a.put d v) w → q (.panic c) a w

section
variable {P : Program} {ops : List Oper} {n : Nat} {listed : Array Bool} {pd : List PD} {fs : List Fact} {env : T Value} {H LS : AHeap} {nx : Nat} {m m' : Ren} {a : Act} {w w0 : World} {F : List Res} {cs : List (Nat × Act × Oper × Value)} {E : List Nat} {p : PD}
theorem PdR.put (h : PdR P ops n E m a p) {op o : Oper} {x : Value} (hp : ops[p.i]? = some op) (hd : op.dst = some p.d) (hs : ∀ cs b, op.op ≠ .select cs b) (hap : op.apart ops.toArray o = true) : PdR P ops n E m (a.put o.dst x) p := by
  obtain ⟨h1, h2, h3⟩ := Oper.apart_spec hap
  rcases h with ⟨hE, u, h4, h5⟩ | ⟨hE, h4, mp, ap, envp, h5, h6, h7, h8, h9⟩
  · refine .inl ⟨hE, u, h4, ?_⟩
    cases hod : o.dst with
    | none => exact h5
    | some d => simp only [Act.put]; rw [Array.getElem?_setIfInBounds_ne (fun e => h2 _ hd (by rw [hod, e]))]; exact h5
  · refine .inr ⟨hE, h4, mp, ap, envp, h5, h6, h7, h8, fun o' ho' => ?_⟩
    rw [hp] at ho'; cases ho'
    rw [execOp_put op hs a o.dst x h3]
    exact h9 op hp
theorem PdR.mono (h : PdR P ops n E m a p) (hm : m.le m') (hk : m p.kk = none → m' p.kk = none) : PdR P ops n E m' a p := by
  rcases h with ⟨hE, u, h4, h5⟩ | ⟨hE, h4, mp, ap, envp, h5, h⟩
  · exact .inl ⟨hE, u, tr_mono hm _ _ h4, h5⟩
  · exact .inr ⟨hE, hk h4, mp, ap, envp, Ren.le_trans h5 hm, h⟩
/-- one of them is drawn -/
theorem dr_early (hS : PdS ops n listed pd env nx) (h : DrS P ops n pd fs env H LS nx m a w w0 F cs E) (hp : p ∈ pd) (hE : p.i ∉ E) (hsel : Region.noSelect ops.toArray = true) {rr : Option Nat} {q : Exit → Act → World → Prop} {K : Act → World → Prop}
    (hk : ∀ m' x w', ExtP m nx pd m' → DrS P ops n pd fs env H LS nx m' (a.put (some p.d) x) w' w0 F cs (p.i :: E) → K (a.put (some p.d) x) w') : wpOpIn (fz rr) 0 P ops.toArray q p.i K a w := by
  rcases h.pr p hp with ⟨h1, _⟩ | ⟨_, h1, mp, ap, envp, h2, h3, h4, ⟨o, h5, h6, h7, h8, h9⟩, h10⟩
  · exact absurd h1 hE
  obtain ⟨m1, w', h11, h12, h13, x, ⟨u, h14, rfl⟩, h15⟩ := h9 mp n ap w0 w _ h4 h3 (h.sat.ent (heap_none mp))
  obtain ⟨hkk, hfr, hrd, henv, hdn, hH1, o2, ho2, hod2⟩ := hS.all p hp
  obtain ⟨m2, hm2, hs2⟩ : ∃ m2 : Ren, (∀ j, m2 j = if j = p.kk then m1 p.kk else m j) ∧ m2.s = m.s := ⟨⟨fun j => if j = p.kk then m1 p.kk else m j, m.s, m.one⟩, fun _ => rfl, rfl⟩
  have hle : m.le m2 := by
    refine ⟨fun j y hj => ?_, hs2⟩
    rw [hm2]
    split
    · rename_i e; subst e; rw [h1] at hj; cases hj
    · exact hj
  have hle1 : m1.le m2 := by
    refine ⟨fun j y hj => ?_, by rw [hs2, h11.sy, ← h2.sy]⟩
    rw [hm2]
    split
    · rename_i e; subst e; exact hj
    · by_cases hlt : j < p.kk
      · rw [h11.on j hlt] at hj; exact h2.on _ _ hj
      · rw [h12 j (by omega)] at hj; cases hj
  refine wpOpIn_of (o := o) (by simpa using h5) ?_
  unfold Wp1
  rw [if_pos (by simp [Region.wanted, h6])]
  have hrun : (execOp a.eval o).run P w = .ok (.value u) w' := by rw [h10 o h5]; exact h15 o rfl rfl
  refine ⟨fun _ _ => trivial, ?_⟩
  rw [Oper.semAt_eq _ _ _ (not_defer hrun (fun d hd => by cases hd)), hrun, Oper.uponIn_value, h7]
  refine hk m2 u w' ⟨hle, fun j hj hn => by rw [hm2]; exact if_neg fun e => hn (by rw [e]; exact List.mem_map_of_mem hp)⟩ ⟨?_, ?_, ?_, ?_, ?_, ?_, h.fa.mono hle⟩
  · refine ⟨by simp [Act.put, h.ev.1], fun i v hv => ?_⟩
    have hne : p.d ≠ i := fun e => by subst e; rw [henv] at hv; cases hv
    obtain ⟨y, h16, h17⟩ := h.ev.2 i v hv
    exact ⟨y, tr_mono hle _ _ h16, by simp only [Act.put]; rw [Array.getElem?_setIfInBounds_ne hne]; exact h17⟩
  · intro j hj
    rw [hm2, if_neg (by omega)]
    exact h.mb j hj
  · have h18 := (h13.ent (Ent.head fun h hh => HEAP_mono hle1 hh)).ent (Ent.swap _ _ _)
    have h19 := (h18.ent (Ent.head fun h hh => HEAP_mono hle hh)).ent (Ent.cons _ (Ent.swap _ _ _))
    refine h19.ent (Ent.cons _ (Ent.trans (Ent.head fun h hh => HEAP_mono hle hh) (Ent.cons _ ?_)))
    exact Ent.trans (Ent.cons _ (resL_mono hle)) (resL_in hp hS.ni)
  · intro x hx
    by_cases hxp : x.i = p.i
    · have : x = p := by
        have := hS.ni
        exact nodup_inj this hx hp hxp
      subst this
      exact .inl ⟨List.mem_cons_self, u, tr_mono hle1 _ _ h14, by simp [Act.put, h.ev.1, hdn]⟩
    · have hxk : x.kk ≠ p.kk := fun e => hxp (by rw [nodup_inj hS.nk hx hp e])
      obtain ⟨ox, hox, hdx⟩ := (hS.all x hx).2.2.2.2.2.2
      have hap : ox.apart ops.toArray o = true := (hS.all x hx).2.1 ox (by simpa using hox) p.i o (by simpa using h5) (Ne.symm hxp) (mem_ready.1 hrd).1 (not_bind hrd (by simpa using h5) (mem_ready.1 (hS.all x hx).2.2.1).1)
      have h20 : PdR P ops n E m2 (a.put (some p.d) u) x := by
        have := (h.pr x hx).put (x := u) hox hdx (fun cs b => Region.noSelect_spec hsel x.i ox cs b (by simpa using hox)) hap
        rw [h7] at this
        exact this.mono hle fun hn => by rw [hm2, if_neg hxk]; exact hn
      rcases h20 with ⟨h21, h22⟩ | ⟨h21, h22⟩
      · exact .inl ⟨List.mem_cons_of_mem _ h21, h22⟩
      · exact .inr ⟨by simp [hxp, h21], h22⟩
  · exact List.nodup_cons.2 ⟨hE, h.nd⟩
  · intro i hi
    rcases List.mem_cons.1 hi with rfl | hi
    · exact List.mem_map_of_mem hp
    · exact h.sub i hi
end
end Go.Gsl

namespace Go.Gsl
set_option linter.unusedVariables false

theorem filter_len {i : Nat} : ∀ {ps : List Nat}, ps.Nodup → ps.length ≤ (ps.filter fun j => !Nat.beq j i).length + 1
  | [], _ => by simp
  | p :: ps, h => by
    rw [List.nodup_cons] at h
    by_cases hp : p = i
    · subst hp
      have : (ps.filter fun j => !Nat.beq j p) = ps := List.filter_eq_self.2 fun x hx => by
        have : x ≠ p := fun e => h.1 (by rw [← e]; exact hx)
        simp [nat_beq_decide, this]
      simp [List.filter_cons, this]
    · have := filter_len (i := i) h.2
      simp only [List.filter_cons, nat_beq_decide, hp, decide_false, Bool.not_false, if_true, List.length_cons] at this ⊢; omega
theorem steps_ge {ops : Array Oper} : ∀ {its : List It} {listed : Array Bool} {ps : List Nat}, chkIts ops listed ps its = true → ps.Nodup → ps.length ≤ steps its
  | [], listed, ps, h, _ => by simp [chkIts] at h; simp [h.2, steps]
  | .fg i p :: its, listed, ps, h, hn => by simp only [chkIts, Bool.and_eq_true] at h; have := steps_ge h.2 hn; simp only [steps]; omega
  | .rd i :: its, listed, ps, h, hn => by simp only [chkIts, Bool.and_eq_true] at h; have := steps_ge h.2 hn; simp only [steps]; omega
  | .ld i :: its, listed, ps, h, hn => by simp only [chkIts, Bool.and_eq_true] at h; have := steps_ge h.2 hn; simp only [steps]; omega
  | .eff i :: its, listed, ps, h, hn => by simp only [chkIts, Bool.and_eq_true] at h; have := steps_ge h.2 hn; simp only [steps]; omega
  | .pend i :: its, listed, ps, h, hn => by
    simp only [chkIts, Bool.and_eq_true] at h
    have := steps_ge h.2 (List.nodup_cons.2 ⟨isOut_spec h.1.2, hn⟩)
    simp only [steps, List.length_cons] at this ⊢; omega
  | .mrg i :: its, listed, ps, h, hn => by
    simp only [chkIts, Bool.and_eq_true] at h
    have := steps_ge h.2 (hn.filter _)
    have := filter_len (i := i) hn
    simp only [steps]; omega
theorem nodup_len : ∀ {E ps : List Nat}, E.Nodup → (∀ i ∈ E, i ∈ ps) → E.length ≤ ps.length
  | [], ps, _, _ => by simp
  | e :: E, ps, hn, hs => by
    rw [List.nodup_cons] at hn
    have h1 : e ∈ ps := hs e List.mem_cons_self
    have := nodup_len (E := E) (ps := ps.erase e) hn.2 fun i hi => (List.mem_erase_of_ne (fun h => hn.1 (by rw [← h]; exact hi))).2 (hs i (List.mem_cons_of_mem _ hi))
    rw [List.length_erase_of_mem h1] at this
    have := List.length_pos_of_mem h1
    simp only [List.length_cons]; omega
theorem withB_erase {i : Nat} : ∀ {E : List Nat} {l : Array Bool}, i ∈ E → withB l E = withB (l.setIfInBounds i true) (E.erase i)
  | e :: E, l, h => by
    by_cases he : e = i
    · subst he; rw [List.erase_cons_head]; rfl
    · have hi : i ∈ E := by rcases List.mem_cons.1 h with h | h; · exact absurd h.symm he
                            · exact h
      rw [List.erase_cons_tail (by simpa using he)]
      show withB (l.setIfInBounds e true) E = withB ((l.setIfInBounds i true).setIfInBounds e true) (E.erase i)
      rw [withB_erase hi, Array.setIfInBounds_comm _ _ he]
theorem put_defers (a : Act) (d : Option Tmp) (x : Value) : (a.put d x).defers = a.defers := by cases d <;> rfl
theorem map_filter {pd1 pd2 : List PD} {p : PD} (hn : ((pd1 ++ p :: pd2).map PD.i).Nodup) : ((pd1 ++ p :: pd2).map PD.i).filter (fun j => !Nat.beq j p.i) = (pd1 ++ pd2).map PD.i := by
  rw [List.map_append, List.map_cons, List.nodup_append, List.nodup_cons] at hn
  obtain ⟨h1, ⟨h2, h3⟩, h4⟩ := hn
  rw [List.map_append, List.map_cons, List.filter_append, List.filter_cons, List.map_append]
  have e1 : (pd1.map PD.i).filter (fun j => !Nat.beq j p.i) = pd1.map PD.i := List.filter_eq_self.2 fun x hx => by
    have := h4 x hx p.i List.mem_cons_self
    simp [nat_beq_decide, this]
  have e2 : (pd2.map PD.i).filter (fun j => !Nat.beq j p.i) = pd2.map PD.i := List.filter_eq_self.2 fun x hx => by
    have : x ≠ p.i := fun e => h2 (by rw [← e]; exact hx)
    simp [nat_beq_decide, this]
  rw [e1, e2]; simp
theorem EnvR.less {m : Ren} {n : Nat} {env env' : T Value} {t : Array Value} (he : EnvR m env n t) (h : ∀ j v, env'.get j = some v → env.get j = some v) : EnvR m env' n t := ⟨he.1, fun i v hv => he.2 i v (h i v hv)⟩
theorem ExtP.trans {m m1 m' : Ren} {nx nx1 : Nat} {pd pd1 : List PD} (h1 : ExtP m nx pd m1) (h2 : ExtP m1 nx1 pd1 m') (hn : nx ≤ nx1) (hp : ∀ j, j < nx → j ∉ pd.map PD.kk → j ∉ pd1.map PD.kk) : ExtP m nx pd m' :=
  ⟨Ren.le_trans h1.1 h2.1, fun j hj hk => by rw [h2.2 j (by omega) (hp j hj hk), h1.2 j hj hk]⟩
theorem ExtP.refl (m : Ren) (nx : Nat) (pd : List PD) : ExtP m nx pd m := ⟨Ren.le_refl m, fun _ _ _ => rfl⟩

section
variable {P : Program} {ops : List Oper} {n : Nat} {listed : Array Bool} {pd : List PD} {fs : List Fact} {env env1 : T Value} {H LS : AHeap} {nx nx1 : Nat} {m m' : Ren} {a : Act} {w w0 : World} {F : List Res} {cs : List (Nat × Act × Oper × Value)} {E : List Nat} {p : PD} {i : Nat} {o : Oper}
theorem PdS.apart (hS : PdS ops n listed pd env nx) (hp : p ∈ pd) (ho : ops[i]? = some o) (hr : i ∈ Region.ready .any ops.toArray listed) (hi : i ∉ pd.map PD.i) : ∃ op, ops[p.i]? = some op ∧ op.dst = some p.d ∧ op.apart ops.toArray o = true := by
  obtain ⟨_, hf, hrp, _, _, _, op, ho2, hd⟩ := hS.all p hp
  exact ⟨op, ho2, hd, hf op (by simpa using ho2) i o (by simpa using ho) (fun e => hi (by rw [e]; exact List.mem_map_of_mem hp)) (mem_ready.1 hr).1 (not_bind hr (by simpa using ho) (mem_ready.1 hrp).1)⟩
theorem PdS.step (hS : PdS ops n listed pd env nx) (ho : ops[i]? = some o) (hr : i ∈ Region.ready .any ops.toArray listed) (hi : i ∉ pd.map PD.i) (hsb : SB o.dst env env1) (hn : nx ≤ nx1) : PdS ops n (listed.setIfInBounds i true) pd env1 nx1 := by
  refine ⟨hS.ni, hS.nk, fun p hp => ?_⟩
  obtain ⟨op, ho2, hd, hap⟩ := hS.apart hp ho hr hi
  obtain ⟨h1, h2, h3, h4, h5, h6, h7⟩ := hS.all p hp
  exact ⟨by omega, h2.up i, ready_mono h3 (fun e => hi (by rw [← e]; exact List.mem_map_of_mem hp)), by rw [hsb p.d (fun e => (Oper.apart_spec hap).2.1 p.d hd e)]; exact h4, h5, h6, h7⟩
theorem DrS.put (hS : PdS ops n listed pd env nx) (h : DrS P ops n pd fs env H LS nx m a w w0 F cs E) (ho : ops[i]? = some o) (hr : i ∈ Region.ready .any ops.toArray listed) (hi : i ∉ pd.map PD.i) (hsel : Region.noSelect ops.toArray = true) {x : Value} :
    ∀ p ∈ pd, PdR P ops n E m (a.put o.dst x) p := fun p hp => by
  obtain ⟨op, ho2, hd, hap⟩ := hS.apart hp ho hr hi
  exact (h.pr p hp).put ho2 hd (fun cs b => Region.noSelect_spec hsel p.i op cs b (by simpa using ho2)) hap
/-- what the rest of a listing comes to -/
def DrQ (P : Program) (ops : List Oper) (n : Nat) (its : List It) (listed : Array Bool) (fs : List Fact) (pd : List PD) (env : T Value) (H LS : AHeap) (nx : Nat) (env' : T Value) (H' LS' : AHeap) (nx' : Nat) : Prop :=
  ∀ (m : Ren) (a : Act) (w w0 : World) (F : List Res) (cs : List (Nat × Act × Oper × Value)) (E : List Nat) (fuel : Nat) (rr : Option Nat) (q : Exit → Act → World → Prop), Calm' q → DrS P ops n pd fs env H LS nx m a w w0 F cs E → Closed .any ops.toArray (withB listed E) → fuel + E.length = steps its →
    (∀ m' a' w', ExtP m nx pd m' → EnvR m' env' n a'.tmps → a'.defers = a.defers → MemR w0 F m' H' LS' nx' w' → q .normal a' w') → wpAnyL rr P .any ops.toArray (Cls P ops.toArray cs) q fuel (withB listed E) a w

theorem DrS.len (h : DrS P ops n pd fs env H LS nx m a w w0 F cs E) {its : List It} {l : Array Bool} (hk : chkIts ops.toArray l (pd.map PD.i) its = true) (hn : (pd.map PD.i).Nodup) : E.length ≤ steps its :=
  Nat.le_trans (nodup_len h.nd h.sub) (steps_ge hk hn)

/-- one that is read -/
theorem drq_rd {its : List It} {fs' : List Fact} {env' : T Value} {H' LS' : AHeap} {nx' : Nat} (hS : PdS ops n listed pd env nx) (hsel : Region.noSelect ops.toArray = true) (hnd : noDefer ops = true) (ho : ops[i]? = some o) (heff : effAt ops.toArray i = false) (hf : Region.free .any ops.toArray listed i = true) (hr : i ∈ Region.ready .any ops.toArray listed) (hi : i ∉ pd.map PD.i)
    (hk : chkIts ops.toArray (listed.setIfInBounds i true) (pd.map PD.i) its = true)
    (hy : ∀ m a w w0 F cs E, DrS P ops n pd fs env H LS nx m a w w0 F cs E → ∃ x cs', EnvR m env1 n (a.put o.dst x).tmps ∧ FactsR m fs' cs' ∧ (∀ l w, Cls P ops.toArray cs' l w → Cls P ops.toArray cs l w) ∧ YieldsR P ops.toArray (fun w => ∃ l', Alive .any ops.toArray i l' ∧ Cls P ops.toArray cs' l' w) o x a)
    {it : It} (hit : steps (it :: its) = steps its + 1)
    (h : DrQ P ops n its (listed.setIfInBounds i true) fs' pd env1 H LS nx env' H' LS' nx') : DrQ P ops n (it :: its) listed fs pd env H LS nx env' H' LS' nx' := by
  intro m a w w0 F cs E fuel rr q hq hd hcl hfu hk2
  have hlen := hd.len hk hS.ni
  rw [hit] at hfu
  obtain ⟨f, rfl⟩ : ∃ f, fuel = f + 1 := ⟨fuel - 1, by omega⟩
  obtain ⟨x, cs', h1, h2, h3, h4⟩ := hy m a w w0 F cs E hd
  have hiE : i ∉ E := fun e => hi (hd.sub i e)
  have ho' : ops.toArray[i]? = some o := by simpa using ho
  have hru := ready_up (E := E) hr hiE
  refine wpAnyL_cls _ _ _ _ (fun l' w _ hc => h3 l' w fun c hcc hal => hc c hcc (hal.set heff)) (wpAnyL_first ho' (Region.noSelect_spec hsel) (noDefer_spec hnd) (fun c a w => hq c a _ x w) heff f _ a w (((FreeS.of hf).withB (E := E)) o ho') hru hcl h4 ?_)
  rw [withB_set]
  refine h m _ w w0 F cs' E f rr q hq ⟨h1, hd.mb, hd.sat, hd.put hS ho hr hi hsel, hd.nd, hd.sub, h2⟩ (by rw [← withB_set]; exact hcl.step hru) (by omega) fun m' a' w' h5 h6 h7 h8 => hk2 m' a' w' h5 h6 (by rw [h7, put_defers]) h8
/-- one with an effect -/
theorem drq_eff {its : List It} {env' : T Value} {H1 LS1 H' LS' : AHeap} {nx' : Nat} (hS : PdS ops n listed pd env nx) (hsel : Region.noSelect ops.toArray = true) (ho : ops[i]? = some o) (hr : i ∈ Region.ready .any ops.toArray listed) (hi : i ∉ pd.map PD.i) (h1r : Region.ready .any ops.toArray (withB listed (pd.map PD.i)) = [i])
    (hk : chkIts ops.toArray (listed.setIfInBounds i true) (pd.map PD.i) its = true) (hfo : FOK P H fs) (hop : OpOK P ops.toArray o n env H LS nx env1 H1 LS1 nx1)
    (h : DrQ P ops n its (listed.setIfInBounds i true) fs pd env1 H1 LS1 nx1 env' H' LS' nx') : DrQ P ops n (.eff i :: its) listed fs pd env H LS nx env' H' LS' nx' := by
  intro m a w w0 F cs E fuel
  induction fuel generalizing m a w E with
  | zero =>
    intro rr q hq hd hcl hfu hk2
    have := hd.len hk hS.ni
    simp only [steps] at hfu; omega
  | succ f ih =>
    intro rr q hq hd hcl hfu hk2
    have hiE : i ∉ E := fun e => hi (hd.sub i e)
    refine ⟨cls_of hfo hd.fa hd.sat, fun e => (by have := ready_up (E := E) hr hiE; rw [e] at this; cases this), fun j hj => ?_⟩
    have hjr := hj
    obtain ⟨hjE, hj⟩ := ready_withB hd.sub hj
    rcases hj with hj | hj
    · obtain ⟨p, hp, rfl⟩ := List.mem_map.1 hj
      refine dr_early hS hd hp hjE hsel fun m' x w' h1 h2 => ?_
      have := ih m' _ w' (p.i :: E) rr q hq h2 (by rw [withB_cons]; exact hcl.step hjr) (by simp only [List.length_cons]; omega) fun m2 a2 w2 h3 h4 h5 h6 => hk2 m2 a2 w2 (h1.trans h3 (Nat.le_refl _) fun _ _ h => h) h4 (by rw [h5, put_defers]) h6
      rw [withB_cons] at this
      exact this
    · rw [h1r, List.mem_singleton] at hj
      subst hj
      refine wpOpIn_of (by simpa using ho) (hop.2 m a w w0 _ rr q _ hd.ev ⟨hd.mb, hd.sat⟩ fun m' x w' h1 h2 h3 => ?_)
      have hle := h1.le hd.mb
      rw [withB_set]
      refine h m' _ w' w0 F cs E f rr q hq ⟨h2, h3.1, h3.2.ent (Ent.cons _ (Ent.cons _ (resL_mono hle))), fun p hp => ?_, hd.nd, hd.sub, hd.fa.mono hle⟩ (by rw [← withB_set]; exact hcl.step hjr) (by simp only [steps] at hfu; omega) fun m2 a2 w2 h4 h5 h6 h7 => ?_
      · refine (hd.put hS ho hr hi hsel p hp).mono hle fun hn => ?_
        rw [h1.on p.kk (hS.all p hp).1]; exact hn
      · exact hk2 m2 a2 w2 (ExtP.trans (pd1 := pd) ⟨hle, fun j hj _ => h1.on j hj⟩ h4 hop.1.1 fun _ _ h => h) h5 (by rw [h6, put_defers]) h7
/-- one that lays a block -/
theorem drq_pend {its : List It} {env' : T Value} {H1 H' LS' : AHeap} {nx' d : Nat} {v : Value} {ob : AObj} (hS : PdS ops n listed pd env nx) (hi : i ∉ pd.map PD.i) (ho : ops[i]? = some o) (hg : o.guard = none) (hdst : o.dst = some d) (hdn : d < n) (hw : WrOK P o.op o.type env .lf nx (some v) H1 (nx + 1))
    (he : ∀ j, env1.get j = if j = d then none else env.get j)
    (h : DrQ P ops n its listed fs (⟨i, d, nx, v, H1, ob⟩ :: pd) env1 H LS (nx + 1) env' H' LS' nx') : DrQ P ops n (.pend i :: its) listed fs pd env H LS nx env' H' LS' nx' := by
  intro m a w w0 F cs E fuel rr q hq hd hcl hfu hk2
  have hiE : i ∉ E := fun e => hi (hd.sub i e)
  refine h m a w w0 F cs E fuel rr q hq ⟨?_, fun j hj => hd.mb j (by omega), ?_, ?_, hd.nd, fun j hj => List.mem_cons_of_mem _ (hd.sub j hj), hd.fa⟩ hcl hfu fun m' a' w' h1 h2 h3 h4 => hk2 m' a' w' ⟨h1.1, fun j hj hk => h1.2 j (by omega) ?_⟩ h2 h3 h4
  · refine hd.ev.less fun j u hu => ?_
    rw [he] at hu
    split at hu
    · cases hu
    · exact hu
  · refine hd.sat.ent (Ent.cons _ (Ent.cons _ ?_))
    have : resP E m ⟨i, d, nx, v, H1, ob⟩ = HEAP .lf m := by unfold resP; rw [if_neg hiE]
    show Ent _ ((kH, resP E m ⟨i, d, nx, v, H1, ob⟩) :: (resL E m pd ++ F))
    rw [this]
    exact heap_none m
  · intro p hp
    rcases List.mem_cons.1 hp with rfl | hp
    · exact .inr ⟨hiE, hd.mb nx (Nat.le_refl _), m, a, env, Ren.le_refl m, hd.mb, hd.ev, ⟨o, ho, hg, hdst, hdn, hw⟩, fun _ _ => rfl⟩
    · exact hd.pr p hp
  · simp only [List.map_cons, List.mem_cons, not_or]
    exact ⟨by omega, hk⟩
theorem fgK_eq (i : Nat) : ∀ (fs : List Fact), fgK i fs = fs.filter fun f => !Nat.beq f.i i
  | [] => rfl
  | f :: fs => by
    show Bool.rec (motive := fun _ => List Fact) (f :: fgK i fs) (fgK i fs) (Nat.beq f.i i) = _
    rw [fgK_eq i fs, List.filter_cons]
    cases Nat.beq f.i i <;> rfl
theorem FactsR.fg {m : Ren} (i : Nat) : ∀ {fs : List Fact} {cs : List (Nat × Act × Oper × Value)}, FactsR m fs cs → FactsR m (fgK i fs) (cs.filter fun c => !Nat.beq c.1 i)
  | [], cs, h => by cases h; rfl
  | f :: fs, cs, h => by
    obtain ⟨a, o, x, n, cs', rfl, h2, h3, h4, h5, h6⟩ := h
    show FactsR m (Bool.rec (motive := fun _ => List Fact) (f :: fgK i fs) (fgK i fs) (Nat.beq f.i i)) _
    rw [List.filter_cons]
    cases hb : Nat.beq f.i i with
    | true => simp only [Bool.not_true]; exact h6.fg i
    | false => simp only [Bool.not_false, if_true]; exact ⟨a, o, x, n, _, rfl, h2, h3, h4, h5, h6.fg i⟩
theorem FOK.fg {H : AHeap} {i : Nat} {fs : List Fact} (h : FOK P H fs) : FOK P H (fgK i fs) := fun f hf => by
  rw [fgK_eq] at hf
  exact h f ((List.mem_filter.1 hf).1)
theorem isPath_dep {ops : Array Oper} {i : Nat} : ∀ {p : List Nat} {j : Nat}, isPath ops i (j :: p) = true → Dep .any ops i j
  | [], j, h => by
    simp only [isPath] at h
    split at h
    · rename_i o ho
      obtain ⟨e, he, h2⟩ := Array.any_eq_true'.1 h
      simp only [Bool.and_eq_true] at h2
      exact .one j o e ho he h2.1 (Nat.eq_of_beq_eq_true h2.2)
    · cases h
  | k :: p, j, h => by
    simp only [isPath, Bool.and_eq_true] at h
    obtain ⟨h, h3⟩ := h
    split at h
    · rename_i o ho
      obtain ⟨e, he, h2⟩ := Array.any_eq_true'.1 h
      simp only [Bool.and_eq_true] at h2
      have h4 : e.on = k := Nat.eq_of_beq_eq_true h2.2
      exact .step j o e ho he h2.1 (by rw [h4]; exact isPath_dep h3)
    · cases h
/-- what an operation read is forgotten -/
theorem drq_fg {its : List It} {env' : T Value} {H' LS' : AHeap} {nx' : Nat} {pt : List Nat} (hdd : isDead ops.toArray listed i pt = true)
    (h : DrQ P ops n its listed (fgK i fs) pd env H LS nx env' H' LS' nx') : DrQ P ops n (.fg i pt :: its) listed fs pd env H LS nx env' H' LS' nx' := by
  intro m a w w0 F cs E fuel rr q hq hd hcl hfu hk2
  have h1 := h m a w w0 F (cs.filter fun c => !Nat.beq c.1 i) E fuel rr q hq ⟨hd.ev, hd.mb, hd.sat, hd.pr, hd.nd, hd.sub, hd.fa.fg i⟩ hcl hfu hk2
  unfold isDead at hdd
  simp only [Bool.and_eq_true] at hdd
  obtain ⟨h2, h3⟩ := hdd
  cases pt with
  | nil => cases h3
  | cons j p =>
    simp only [Bool.and_eq_true] at h3
    have h4 := isPath_dep h2
    refine wpAnyL_cls _ _ _ _ (fun l' w hl hc c hcc hal => ?_) h1
    by_cases hci : c.1 = i
    · have h5 : l'.getD j false = true := hl j (withB_on.2 (.inl h3.1))
      rw [hal j (by rw [hci]; exact h4) h3.2] at h5; cases h5
    · exact hc c (List.mem_filter.2 ⟨hcc, by simp [nat_beq_decide, hci]⟩) hal
end
end Go.Gsl

namespace Go.Gsl
set_option linter.unusedVariables false
section
variable {P : Program} {ops : List Oper} {n : Nat} {listed : Array Bool} {pd pd1 pd2 : List PD} {fs : List Fact} {env env1 : T Value} {H H1 LS : AHeap} {nx nx1 : Nat} {m m' : Ren} {a : Act} {w w0 : World} {F : List Res} {cs : List (Nat × Act × Oper × Value)} {E : List Nat} {p : PD} {i : Nat} {o : Oper}
theorem mem_mid {x : PD} : x ∈ pd1 ++ pd2 → x ∈ pd1 ++ p :: pd2 := fun h => by
  rcases List.mem_append.1 h with h | h
  · exact List.mem_append_left _ h
  · exact List.mem_append_right _ (List.mem_cons_of_mem _ h)
theorem mid_ne {A B : Type} {f : A → B} {l1 l2 : List A} {y x : A} (hn : ((l1 ++ y :: l2).map f).Nodup) (hx : x ∈ l1 ++ l2) : f x ≠ f y := by
  rw [List.map_append, List.map_cons, List.nodup_append, List.nodup_cons] at hn
  obtain ⟨h1, ⟨h2, h3⟩, h4⟩ := hn
  rcases List.mem_append.1 hx with h | h
  · exact h4 _ (List.mem_map_of_mem h) _ List.mem_cons_self
  · exact fun e => h2 (by rw [← e]; exact List.mem_map_of_mem h)
theorem mid_nodup {A B : Type} {f : A → B} {l1 l2 : List A} {y : A} (hn : ((l1 ++ y :: l2).map f).Nodup) : ((l1 ++ l2).map f).Nodup :=
  List.Nodup.sublist (((List.sublist_cons_self y l2).append_left l1).map f) hn
theorem PdS.less (hS : PdS ops n listed (pd1 ++ p :: pd2) env nx) (he : ∀ j, env1.get j = if j = p.d then some p.v else env.get j) : PdS ops n (listed.setIfInBounds p.i true) (pd1 ++ pd2) env1 nx := by
  refine ⟨mid_nodup hS.ni, mid_nodup hS.nk, fun x hx => ?_⟩
  obtain ⟨h1, h2, h3, h4, h5, h6, ox, h7, h8⟩ := hS.all x (mem_mid hx)
  obtain ⟨g1, g2, g3, g4, g5, g6, op, g7, g8⟩ := hS.all p (by simp)
  have hne : x.i ≠ p.i := mid_ne hS.ni hx
  have hap := h2 ox (by simpa using h7) p.i op (by simpa using g7) (Ne.symm hne) (mem_ready.1 g3).1 (not_bind g3 (by simpa using g7) (mem_ready.1 h3).1)
  have hd : x.d ≠ p.d := fun e => (Oper.apart_spec hap).2.1 x.d h8 (by rw [g8, e])
  exact ⟨h1, h2.up _, ready_mono h3 hne, by rw [he, if_neg hd]; exact h4, h5, h6, ox, h7, h8⟩
/-- the block lies: it is one of the run's -/
theorem DrS.merge (hS : PdS ops n listed (pd1 ++ p :: pd2) env nx) (hd : DrS P ops n (pd1 ++ p :: pd2) fs env H LS nx m a w w0 F cs E) (hE : p.i ∈ E) (he : ∀ j, env1.get j = if j = p.d then some p.v else env.get j) (hH : ∀ j, H1.get j = if j = p.kk then some p.ob else H.get j) :
    DrS P ops n (pd1 ++ pd2) fs env1 H1 LS nx m a w w0 F cs (E.erase p.i) := by
  obtain ⟨g1, g2, g3, g4, g5, g6, g7⟩ := hS.all p (by simp)
  refine ⟨⟨hd.ev.1, fun j v hv => ?_⟩, hd.mb, ?_, fun x hx => ?_, hd.nd.erase _, fun j hj => ?_, hd.fa⟩
  · rw [he] at hv
    by_cases hj : j = p.d
    · subst hj
      rw [if_pos rfl] at hv; cases hv
      rcases hd.pr p (by simp) with ⟨_, u, h1, h2⟩ | ⟨h1, _⟩
      · exact ⟨u, h1, h2⟩
      · exact absurd hE h1
    · rw [if_neg hj] at hv; exact hd.ev.2 j v hv
  · have h1 := hd.sat.ent (Ent.cons _ (Ent.cons _ (resL_out hS.ni hE)))
    exact heap_join (h1.ent (Ent.cons _ (Ent.swap _ _ _))) g6 hH
  · have hne : x.i ≠ p.i := mid_ne hS.ni hx
    rcases hd.pr x (mem_mid hx) with ⟨h1, h2⟩ | ⟨h1, h2⟩
    · exact .inl ⟨(List.mem_erase_of_ne hne).2 h1, h2⟩
    · exact .inr ⟨fun h3 => h1 (List.mem_of_mem_erase h3), h2⟩
  · have h1 := hd.sub j (List.mem_of_mem_erase hj)
    have h2 : j ≠ p.i := fun e => by
      subst e
      have := hd.nd
      exact (List.Nodup.mem_erase_iff this).1 hj |>.1 rfl
    rw [List.map_append, List.map_cons, List.mem_append, List.mem_cons] at h1
    rw [List.map_append, List.mem_append]
    rcases h1 with h1 | h1 | h1
    · exact .inl h1
    · exact absurd h1 h2
    · exact .inr h1
theorem drq_mrg {its : List It} {env' : T Value} {H' LS' : AHeap} {nx' : Nat} (hS : PdS ops n listed (pd1 ++ p :: pd2) env nx) (hsel : Region.noSelect ops.toArray = true) (hr : p.i ∈ Region.ready .any ops.toArray listed)
    (h1r : Region.ready .any ops.toArray (withB listed ((pd1 ++ pd2).map PD.i)) = [p.i])
    (hk : chkIts ops.toArray (listed.setIfInBounds p.i true) ((pd1 ++ pd2).map PD.i) its = true) (hfo : FOK P H fs) (he : ∀ j, env1.get j = if j = p.d then some p.v else env.get j) (hH : ∀ j, H1.get j = if j = p.kk then some p.ob else H.get j)
    (h : DrQ P ops n its (listed.setIfInBounds p.i true) fs (pd1 ++ pd2) env1 H1 LS nx env' H' LS' nx') : DrQ P ops n (.mrg p.i :: its) listed fs (pd1 ++ p :: pd2) env H LS nx env' H' LS' nx' := by
  intro m a w w0 F cs E fuel
  induction fuel generalizing m a w E with
  | zero =>
    intro rr q hq hd hcl hfu hk2
    by_cases hE : p.i ∈ E
    · have h2 := hd.merge hS hE he hH
      have h3 := h m a w w0 F cs _ 0 rr q hq h2 (by rw [← withB_erase hE]; exact hcl) (by rw [List.length_erase_of_mem hE]; simp only [steps] at hfu; omega) fun m' a' w' h4 h5 h6 h7 => hk2 m' a' w' ⟨h4.1, fun j hj hn => h4.2 j hj fun h8 => hn ?_⟩ h5 h6 h7
      · rw [withB_erase hE]; exact h3
      · obtain ⟨x, hx, rfl⟩ := List.mem_map.1 h8
        exact List.mem_map_of_mem (mem_mid hx)
    · exfalso
      have h2 : ∀ j ∈ E, j ∈ (pd1 ++ pd2).map PD.i := fun j hj => by
        have h3 := hd.sub j hj
        rw [List.map_append, List.map_cons, List.mem_append, List.mem_cons] at h3
        rw [List.map_append, List.mem_append]
        rcases h3 with h3 | h3 | h3
        · exact .inl h3
        · exact absurd (h3 ▸ hj) hE
        · exact .inr h3
      have := Nat.le_trans (nodup_len hd.nd h2) (steps_ge hk (mid_nodup hS.ni))
      simp only [steps] at hfu; omega
  | succ f ih =>
    intro rr q hq hd hcl hfu hk2
    by_cases hE : p.i ∈ E
    · have h2 := hd.merge hS hE he hH
      have h3 := h m a w w0 F cs _ (f + 1) rr q hq h2 (by rw [← withB_erase hE]; exact hcl) (by rw [List.length_erase_of_mem hE]; have := List.length_pos_of_mem hE; simp only [steps] at hfu; omega) fun m' a' w' h4 h5 h6 h7 => hk2 m' a' w' ⟨h4.1, fun j hj hn => h4.2 j hj fun h8 => hn ?_⟩ h5 h6 h7
      · rw [withB_erase hE]; exact h3
      · obtain ⟨x, hx, rfl⟩ := List.mem_map.1 h8
        exact List.mem_map_of_mem (mem_mid hx)
    · have h2 : ∀ j ∈ E, j ∈ (pd1 ++ pd2).map PD.i := fun j hj => by
        have h3 := hd.sub j hj
        rw [List.map_append, List.map_cons, List.mem_append, List.mem_cons] at h3
        rw [List.map_append, List.mem_append]
        rcases h3 with h3 | h3 | h3
        · exact .inl h3
        · exact absurd (h3 ▸ hj) hE
        · exact .inr h3
      refine ⟨cls_of hfo hd.fa hd.sat, fun e => (by have := ready_up (E := E) hr hE; rw [e] at this; cases this), fun j hj => ?_⟩
      have hjr := hj
      obtain ⟨hjE, hj⟩ := ready_withB h2 hj
      have : ∃ x ∈ pd1 ++ p :: pd2, x.i = j := by
        rcases hj with hj | hj
        · obtain ⟨x, hx, rfl⟩ := List.mem_map.1 hj
          exact ⟨x, mem_mid hx, rfl⟩
        · rw [h1r, List.mem_singleton] at hj
          exact ⟨p, by simp, hj.symm⟩
      obtain ⟨x, hx, rfl⟩ := this
      refine dr_early hS hd hx hjE hsel fun m' y w' h3 h4 => ?_
      have := ih m' _ w' (x.i :: E) rr q hq h4 (by rw [withB_cons]; exact hcl.step hjr) (by simp only [List.length_cons]; omega) fun m2 a2 w2 h5 h6 h7 h8 => hk2 m2 a2 w2 (h3.trans h5 (Nat.le_refl _) fun _ _ h => h) h6 (by rw [h7, put_defers]) h8
      rw [withB_cons] at this
      exact this
theorem drq_end {env' : T Value} (hr : Region.ready .any ops.toArray listed = []) (hfo : FOK P H fs) : DrQ P ops n [] listed fs [] env H LS nx env H LS nx := by
  intro m a w w0 F cs E fuel rr q hq hd hcl hfu hk2
  have hE : E = [] := by
    cases E with
    | nil => rfl
    | cons e E => exact absurd (hd.sub e List.mem_cons_self) (by simp)
  subst hE
  have hf : fuel = 0 := by simpa [steps] using hfu
  subst hf
  refine ⟨cls_of hfo hd.fa hd.sat, hr, hk2 m a w (ExtP.refl _ _ _) hd.ev rfl ⟨hd.mb, hd.sat⟩⟩
end

section
variable {ρ : Type} {P : Program} {cf : Cf} {cv : CallV ρ} {ops : List Oper} {n : Nat}
theorem dr_some (hc : CfOK P cf) (hcv : CvSound P cv) (hdst : ∀ (j : Nat) (o : Oper), ops[j]? = some o → ∀ t, o.dst = some t → t < n) (hnd : noDefer ops = true) (hsel : Region.noSelect ops.toArray = true) :
    ∀ (its : List It) (listed : Array Bool) (fs : List Fact) (pd : List PD) (env : T Value) (H LS : AHeap) (nx : Nat) (k : T Value → AHeap → AHeap → Nat → Option ρ) (r : ρ), chkIts ops.toArray listed (pd.map PD.i) its = true → PdS ops n listed pd env nx → LOK LS →
    drK cf cv ops its fs pd env H LS nx k = some r → ∃ env' H' LS' nx', (nx ≤ nx' ∧ LOK LS' ∧ k env' H' LS' nx' = some r) ∧ DrQ P ops n its listed fs pd env H LS nx env' H' LS' nx'
  | [], listed, fs, pd, env, H, LS, nx, k, r, hk, hS, hl, h => by
    cases pd with
    | cons p pd => cases h
    | nil =>
      simp only [chkIts, Bool.and_eq_true] at hk
      obtain ⟨h, hfo⟩ := recheck_some (P := P) hc (show recheck cf fs H (k env H LS nx) = some r from h)
      exact ⟨env, H, LS, nx, ⟨Nat.le_refl _, hl, h⟩, drq_end (env' := env) (by simpa using hk.1) hfo⟩
  | .rd i :: its, listed, fs, pd, env, H, LS, nx, k, r, hk, hS, hl, h => by
    simp only [chkIts, Bool.and_eq_true] at hk
    obtain ⟨⟨⟨⟨heff, hf⟩, hr⟩, hi⟩, hk⟩ := hk
    have heff : effAt ops.toArray i = false := by simpa using heff
    have hr : i ∈ Region.ready .any ops.toArray listed := by simpa using hr
    have hi := isOut_spec hi
    obtain ⟨o, ho, h⟩ := nthK_some (show nthK ops i (fun o => guardK ops o.guard env fun b => Bool.rec (motive := fun _ => Option ρ) (dstK o.dst undef env fun env => drK cf cv ops its fs pd env H LS nx k)
      (rdF o.op cf.X cf.E env .lf fun v => dstK o.dst v env fun env => drK cf cv ops its fs pd env H LS nx k) b) = some r from h)
    obtain ⟨b, h, hw⟩ := guardK_some h
    cases b with
    | false =>
      obtain ⟨env1, ⟨hsb, h2⟩, h⟩ := dstK_some (n := n) (show dstK o.dst undef env (fun env => drK cf cv ops its fs pd env H LS nx k) = some r from h) (hdst i o ho)
      obtain ⟨env', H', LS', nx', h3, h4⟩ := dr_some hc hcv hdst hnd hsel its _ fs pd env1 H LS nx k r hk (hS.step ho hr hi hsb (Nat.le_refl _)) hl h
      refine ⟨env', H', LS', nx', h3, drq_rd hS hsel hnd ho heff hf hr hi hk (fun m a w w0 F cs E hd => ⟨undef, cs, h2 m a undef hd.ev (tr_undef m), hd.fa, fun _ _ h => h, .inr ⟨hw m n a o rfl hd.ev, rfl⟩⟩) rfl h4⟩
    | true =>
      obtain ⟨v, h1, h⟩ := rdF_some (P := P) hc.X hc.E (show rdF o.op cf.X cf.E env .lf (fun v => dstK o.dst v env fun env => drK cf cv ops its fs pd env H LS nx k) = some r from h) o.type
      obtain ⟨env1, ⟨hsb, h2⟩, h⟩ := dstK_some (n := n) h (hdst i o ho)
      obtain ⟨env', H', LS', nx', h3, h4⟩ := dr_some hc hcv hdst hnd hsel its _ fs pd env1 H LS nx k r hk (hS.step ho hr hi hsb (Nat.le_refl _)) hl h
      refine ⟨env', H', LS', nx', h3, drq_rd hS hsel hnd ho heff hf hr hi hk (fun m a w w0 F cs E hd => ?_) rfl h4⟩
      have key : ∀ w, ∃ x, tr m v = some x ∧ (execOp a.eval o).run P w = .ok (.value x) w := fun w => by
        have hs : Sat w w ((kH, HEAP .lf m) :: []) := (heap_none m (Rs := [])) |> fun e => (show Sat w w [] from ⟨⟨rfl, rfl, rfl⟩, fun _ => none, fun _ _ _ h => (by cases h), trivial⟩).ent e
        obtain ⟨x, h5, h6⟩ := h1 m n a w w [] hd.ev hs
        exact ⟨x, h5, h6 o rfl rfl⟩
      obtain ⟨x, h5, _⟩ := key w
      refine ⟨x, cs, h2 m a x hd.ev h5, hd.fa, fun _ _ h => h, .inl ⟨hw m n a o rfl hd.ev, fun w' _ => ?_⟩⟩
      obtain ⟨y, h6, h7⟩ := key w'
      rw [h5] at h6; cases h6; exact h7
  | .ld i :: its, listed, fs, pd, env, H, LS, nx, k, r, hk, hS, hl, h => by
    simp only [chkIts, Bool.and_eq_true] at hk
    obtain ⟨⟨⟨⟨heff, hf⟩, hr⟩, hi⟩, hk⟩ := hk
    have heff : effAt ops.toArray i = false := by simpa using heff
    have hr : i ∈ Region.ready .any ops.toArray listed := by simpa using hr
    have hi := isOut_spec hi
    obtain ⟨o, ho, h⟩ := nthK_some (show nthK ops i (fun o => guardK ops o.guard env fun b => Bool.rec (motive := fun _ => Option ρ) (dstK o.dst undef env fun env => drK cf cv ops its fs pd env H LS nx k)
      (rdF o.op cf.X cf.E env H fun v => dstK o.dst v env fun env' => drK cf cv ops its (⟨i, o.op, o.type, env, v⟩ :: fs) pd env' H LS nx k) b) = some r from h)
    obtain ⟨b, h, hw⟩ := guardK_some h
    cases b with
    | false =>
      obtain ⟨env1, ⟨hsb, h2⟩, h⟩ := dstK_some (n := n) (show dstK o.dst undef env (fun env => drK cf cv ops its fs pd env H LS nx k) = some r from h) (hdst i o ho)
      obtain ⟨env', H', LS', nx', h3, h4⟩ := dr_some hc hcv hdst hnd hsel its _ fs pd env1 H LS nx k r hk (hS.step ho hr hi hsb (Nat.le_refl _)) hl h
      refine ⟨env', H', LS', nx', h3, drq_rd hS hsel hnd ho heff hf hr hi hk (fun m a w w0 F cs E hd => ⟨undef, cs, h2 m a undef hd.ev (tr_undef m), hd.fa, fun _ _ h => h, .inr ⟨hw m n a o rfl hd.ev, rfl⟩⟩) rfl h4⟩
    | true =>
      obtain ⟨v, h1, h⟩ := rdF_some (P := P) hc.X hc.E (show rdF o.op cf.X cf.E env H (fun v => dstK o.dst v env fun env' => drK cf cv ops its (⟨i, o.op, o.type, env, v⟩ :: fs) pd env' H LS nx k) = some r from h) o.type
      obtain ⟨env1, ⟨hsb, h2⟩, h⟩ := dstK_some (n := n) h (hdst i o ho)
      obtain ⟨env', H', LS', nx', h3, h4⟩ := dr_some hc hcv hdst hnd hsel its _ _ pd env1 H LS nx k r hk (hS.step ho hr hi hsb (Nat.le_refl _)) hl h
      refine ⟨env', H', LS', nx', h3, drq_rd hS hsel hnd ho heff hf hr hi hk (fun m a w w0 F cs E hd => ?_) rfl h4⟩
      obtain ⟨x, h5, h6⟩ := h1 m n a w0 w _ hd.ev hd.sat
      refine ⟨x, (i, a, o, x) :: cs, h2 m a x hd.ev h5, ⟨a, o, x, n, cs, rfl, rfl, rfl, hd.ev, h5, hd.fa⟩, fun l w h c hc => h c (List.mem_cons_of_mem _ hc), .inl ⟨hw m n a o rfl hd.ev, fun w' hw' => ?_⟩⟩
      obtain ⟨l', hal, hw'⟩ := hw'
      exact hw' (i, a, o, x) List.mem_cons_self hal
  | .fg i p :: its, listed, fs, pd, env, H, LS, nx, k, r, hk, hS, hl, h => by
    simp only [chkIts, Bool.and_eq_true] at hk
    obtain ⟨env', H', LS', nx', h3, h4⟩ := dr_some hc hcv hdst hnd hsel its listed (fgK i fs) pd env H LS nx k r hk.2 hS hl h
    exact ⟨env', H', LS', nx', h3, drq_fg hk.1 h4⟩
  | .eff i :: its, listed, fs, pd, env, H, LS, nx, k, r, hk, hS, hl, h => by
    simp only [chkIts, Bool.and_eq_true] at hk
    obtain ⟨⟨⟨hr, hi⟩, h1r⟩, hk⟩ := hk
    have hr : i ∈ Region.ready .any ops.toArray listed := by simpa using hr
    have hi := isOut_spec hi
    obtain ⟨h, hfo⟩ := recheck_some (P := P) hc (show recheck cf fs H (nthK ops i (fun o => opK cf cv ops o env H LS nx fun env H LS nx => drK cf cv ops its fs pd env H LS nx k)) = some r from h)
    obtain ⟨o, ho, h⟩ := nthK_some h
    obtain ⟨env1, H1, LS1, nx1, hop, hl1, h⟩ := opK_some hc hcv (hdst i o ho) hl h
    obtain ⟨env', H', LS', nx', h3, h4⟩ := dr_some hc hcv hdst hnd hsel its _ fs pd env1 H1 LS1 nx1 k r hk (hS.step ho hr hi hop.1.2 hop.1.1) hl1 h
    exact ⟨env', H', LS', nx', ⟨Nat.le_trans hop.1.1 h3.1, h3.2⟩, drq_eff hS hsel ho hr hi (oneR_spec h1r) hk hfo hop h4⟩
  | .pend i :: its, listed, fs, pd, env, H, LS, nx, k, r, hk, hS, hl, h => by
    simp only [chkIts, Bool.and_eq_true] at hk
    obtain ⟨⟨⟨hf, hr⟩, hi⟩, hk⟩ := hk
    have hr : i ∈ Region.ready .any ops.toArray listed := by simpa using hr
    have hi := isOut_spec hi
    obtain ⟨o, ho, h⟩ := nthK_some (show nthK ops i (fun o => match o.guard, o.dst with
      | none, some d => T.put none env d fun env1 => wrF o.op cf.X env .lf nx fun ov H1 nx1 => match ov with
        | some v => ckK (Nat.beq nx1 (Nat.succ nx)) (getK H1 nx fun ob => drK cf cv ops its fs (⟨i, d, nx, v, H1, ob⟩ :: pd) env1 H LS nx1 k)
        | none => none
      | _, _ => none) = some r from h)
    split at h
    · rename_i d hg hd
      obtain ⟨env1, he, h⟩ := T.put_spec _ _ _ _ _ h
      obtain ⟨ov, H1, nx1, hw, h⟩ := wrF_some (P := P) hc.X h o.type
      split at h
      · rename_i v
        obtain ⟨h1, h⟩ := ckK_some h
        have h1 := Nat.eq_of_beq_eq_true h1
        subst h1
        obtain ⟨ob, hob, h⟩ := getK_some h
        have hdn := hdst i o ho d hd
        have hS' : PdS ops n listed (⟨i, d, nx, v, H1, ob⟩ :: pd) env1 (nx + 1) := by
          refine ⟨List.nodup_cons.2 ⟨hi, hS.ni⟩, List.nodup_cons.2 ⟨fun hx => ?_, hS.nk⟩, fun p hp => ?_⟩
          · obtain ⟨p, hp, he2⟩ := List.mem_map.1 hx
            have := (hS.all p hp).1
            simp only at he2; omega
          · rcases List.mem_cons.1 hp with rfl | hp
            · exact ⟨Nat.lt_succ_self _, FreeS.of hf, hr, by rw [he, if_pos rfl], hdn, hob, o, ho, hd⟩
            · obtain ⟨h1, h2, h3, h4, h5⟩ := hS.all p hp
              refine ⟨by omega, h2, h3, ?_, h5⟩
              rw [he]; split
              · rfl
              · exact h4
        obtain ⟨env', H', LS', nx', h3, h4⟩ := dr_some hc hcv hdst hnd hsel its listed fs (⟨i, d, nx, v, H1, ob⟩ :: pd) env1 H LS (nx + 1) k r hk hS' hl h
        exact ⟨env', H', LS', nx', ⟨by omega, h3.2⟩, drq_pend hS hi ho hg hd hdn hw he h4⟩
      · cases h
    · cases h
  | .mrg i :: its, listed, fs, pd, env, H, LS, nx, k, r, hk, hS, hl, h => by
    simp only [chkIts, Bool.and_eq_true] at hk
    obtain ⟨⟨⟨h1r, hr⟩, hi⟩, hk⟩ := hk
    have hr : i ∈ Region.ready .any ops.toArray listed := by simpa using hr
    obtain ⟨h, hfo⟩ := recheck_some (P := P) hc (show recheck cf fs H (findPd i pd (fun p pd' => T.put (some p.v) env p.d fun env1 => T.put (some p.ob) H p.kk fun H1 => drK cf cv ops its fs pd' env1 H1 LS nx k)) = some r from h)
    obtain ⟨p, pd1, pd2, rfl, rfl, hA⟩ := findPd_some h
    obtain ⟨env1, he, hB⟩ := T.put_spec _ _ _ _ _ hA
    obtain ⟨H1, hH, hC⟩ := T.put_spec _ _ _ _ _ hB
    rw [map_filter hS.ni] at h1r hk
    obtain ⟨env', H', LS', nx', h3, h4⟩ := dr_some hc hcv hdst hnd hsel its _ fs (pd1 ++ pd2) env1 H1 LS nx k r hk (hS.less he) hl hC
    exact ⟨env', H', LS', nx', h3, drq_mrg hS hsel hr (oneR_spec h1r) hk hfo he hH h4⟩
end
end Go.Gsl

namespace Go.Gsl
set_option linter.unusedVariables false

/-- a deferred call; the mark of a loop over a function -/
inductive DI where
  | mark (k : Nat) | call (f : FuncId) (cs : List Value)
inductive AX where
  | nrm | ret | ex (id : Nat)
def AX.x : AX → Exit
  | .nrm => .normal
  | .ret => .ret
  | .ex id => .exit id
structure FB where
  n : Nat
  c : Code
  res : List ResultVar
  L : T (List It)
/-- a function without a body that the model knows -/
inductive Ext where
  | load | store | add
inductive FK where
  | body (b : FB) | ext (e : Ext) | prim
section
variable {ρ : Type}
abbrev ExT (ρ : Type) := T (List It) → Nat → Option Nat → Code → T Value → List DI → AHeap → AHeap → Nat → (AX → T Value → List DI → AHeap → AHeap → Nat → Option ρ) → Option ρ
abbrev PrimT (ρ : Type) := List (Option Value) → AHeap → Nat → (Value → AHeap → Nat → Option ρ) → Option ρ
/-- the program, as the run needs it -/
structure Pg (ρ : Type) where
  cf : Cf
  FT : T FK
  prim : FuncId → PrimT ρ
  dfn : FuncId → Nat → Bool

/-! ### lists of operations, deferred calls among them -/
noncomputable def dferK (c : Call) (r : Option Nat) (o : Oper) (env : T Value) (k : T Value → DI → Option ρ) : Option ρ := match c with
  | ⟨.value f, ⟨[]⟩, _⟩ => (match r, o.guard with
    | none, none => evK f env fun fv => (match fv with
      | .func (.func g) ⟨[]⟩ ⟨cs⟩ => dstK o.dst undef env fun env => k env (.call g cs)
      | _ => none)
    | _, _ => none)
  | _ => none
abbrev LstK (ρ : Type) := T Value → List DI → AHeap → AHeap → Nat → (T Value → List DI → AHeap → AHeap → Nat → Option ρ) → Option ρ
noncomputable def stepL (op : Op) : Cf → CallV ρ → Option Nat → List Oper → Oper → LstK ρ → LstK ρ := match op with
  | .defer c => fun cf cv r ops o ih env D H LS nx k => dferK c r o env fun env d => ih env (d :: D) H LS nx k
  | _ => fun cf cv r ops o ih env D H LS nx k => opK cf cv ops o env H LS nx fun env H LS nx => ih env D H LS nx k
noncomputable def runL (cf : Cf) (cv : CallV ρ) (r : Option Nat) (ops : List Oper) (l : List Oper) : LstK ρ :=
  List.rec (motive := fun _ => LstK ρ) (fun env D H LS nx k => k env D H LS nx) (fun o _ ih => stepL o.op cf cv r ops o ih) l

/-! ### functions -/
noncomputable def argK (vs : List (Option Value)) : Nat → T Value → (T Value → Option ρ) → Option ρ :=
  List.rec (motive := fun _ => Nat → T Value → (T Value → Option ρ) → Option ρ) (fun _ env k => k env)
    (fun v _ ih i env k => match v with
      | some v => T.put (some v) env i fun env => ih (Nat.succ i) env k
      | none => ih (Nat.succ i) env k) vs
noncomputable def leaveK (dfn : FuncId → Nat → Bool) (D : List DI) : AHeap → (AHeap → Option ρ) → Option ρ :=
  List.rec (motive := fun _ => AHeap → (AHeap → Option ρ) → Option ρ) (fun LS k => k LS)
    (fun d _ ih LS k => match d with
      | .mark b => getK LS b fun o => (match o with
        | .dfr => T.put none LS b fun LS => ih LS k
        | _ => none)
      | .call f cs => ckK (dfn f cs.length) (ih LS k)) D
noncomputable def res1 (X : T XT) (v : ResultVar) (env : T Value) (H : AHeap) (k : Value → Option ρ) : Option ρ := match v with
  | .tmp t => getK env t k
  | .cell a t => getK env a fun v => ptrK v fun b o => getK H b fun obj => getK X t fun xt => ldK xt.ag xt.sz o obj k
noncomputable def resL' (X : T XT) (l : List ResultVar) : T Value → AHeap → (List Value → Option ρ) → Option ρ :=
  List.rec (motive := fun _ => T Value → AHeap → (List Value → Option ρ) → Option ρ) (fun _ _ k => k []) (fun v _ ih env H k => res1 X v env H fun v => ih env H fun vs => k (v :: vs)) l
noncomputable def resK (X : T XT) (l : List ResultVar) (env : T Value) (H : AHeap) (k : Value → Option ρ) : Option ρ := match l with
  | [v] => res1 X v env H k
  | l => resL' X l env H fun vs => k (.tuple ⟨vs⟩)
noncomputable def endK (x : AX) (k : Option ρ) : Option ρ := match x with
  | .nrm => k
  | .ret => k
  | .ex _ => none
noncomputable def bodyK (pg : Pg ρ) (ih : ExT ρ) (b : FB) (vs : List (Option Value)) (H LS : AHeap) (nx : Nat) (k : Value → AHeap → AHeap → Nat → Option ρ) : Option ρ :=
  ckK (Nat.ble vs.length b.n) (argK vs 0 .lf fun env => ih b.L b.n none b.c env [] H LS nx fun x env D H LS nx => endK x (leaveK pg.dfn D LS fun LS => resK pg.cf.X b.res env H fun v => k v H LS nx))
noncomputable def extK (e : Ext) (vs : List (Option Value)) (H : AHeap) (k : Value → AHeap → Option ρ) : Option ρ := match vs with
  | some (.pointer (some ⟨b, o, none⟩)) :: vs => getK H b fun obj => ldK false 1 o obj fun old => intK old fun kd x => ckK (Nat.beq (kdN kd) 3) (match e, vs with
    | .load, [] => k (.int .i64 x) H
    | .store, [some v] => intK v fun kd' y => ckK (Nat.beq (kdN kd') 3) (stK' [.int .i64 y] o obj fun obj' => T.put (some obj') H b fun H' => k (.tuple ⟨[]⟩) H')
    | .add, [some v] => intK v fun kd' y => ckK (Nat.beq (kdN kd') 3) (wrapK .i64 (Int.add x y) fun z => stK' [.int .i64 z] o obj fun obj' => T.put (some obj') H b fun H' => k (.int .i64 z) H')
    | _, _ => none)
  | _ => none
noncomputable def callF (pg : Pg ρ) (ih : ExT ρ) (g : FuncId) (vs : List (Option Value)) (H LS : AHeap) (nx : Nat) (k : Value → AHeap → AHeap → Nat → Option ρ) : Option ρ :=
  getK pg.FT g fun fk => match fk with
    | .body b => bodyK pg ih b vs H LS nx k
    | .ext e => extK e vs H fun v H => k v H LS nx
    | .prim => pg.prim g vs H nx fun v H nx => k v H LS nx
/-! ### loops over functions -/
noncomputable def parK (ps : List Tmp) (env : T Value) (k : T Value → Option ρ) : List (Option Value) → Option ρ :=
  List.rec (motive := fun _ => T Value → List (Option Value) → Option ρ) (fun env vs => match vs with
    | [] => k env
    | _ => none) (fun p _ ih env vs => match vs with
    | [] => none
    | v :: vs => T.put v env p fun env => ih env vs) ps env
noncomputable def loopK (o : AObj) (k : T Value → Nat → List Tmp → Code → Code → T (List It) → LoopState → Option Code → Nat → Option ρ) : Option ρ := match o with
  | .loop env n ps as bd L st pe db => k env n ps as bd L st pe db
  | _ => none
def isReady (s : LoopState) : Bool := match s with
  | .ready => true
  | _ => false
def isBusy (s : LoopState) : Bool := match s with
  | .busy => true
  | _ => false
/-- the round's end -/
noncomputable def rndK (x : AX) (k : Bool → Option Code → LoopState → Option ρ) : Option ρ := match x with
  | .nrm => k true none .ready
  | .ret => k false (some .ret) .done
  | .ex id => k false (some (.exit id)) .done
noncomputable def yieldK (ih : ExT ρ) (l : Nat) (vs : List (Option Value)) (H LS : AHeap) (nx : Nat) (k : Value → AHeap → AHeap → Nat → Option ρ) : Option ρ :=
  getK LS l fun o => loopK o fun env n ps as bd L st pe db => parK ps env (fun env1 => ih L n (some l) as env1 [] H LS nx fun x env2 D2 H LS nx => (match x, D2 with
    | .nrm, [] => getK LS l fun o2 => loopK o2 fun e2 n2 ps2 as2 bd2 L2 st2 pe2 db2 => ckK (isReady st2) (T.put (some (.loop e2 n2 ps2 as2 bd2 L2 .busy pe2 db2)) LS l fun LS =>
      ih L n (some l) bd env2 [] H LS nx fun x env3 D3 H LS nx => (match D3 with
        | [] => getK LS l fun o3 => loopK o3 fun e3 n3 ps3 as3 bd3 L3 st3 pe3 db3 => rndK x fun b pe st => T.put (some (.loop e3 n3 ps3 as3 bd3 L3 st pe db3)) LS l fun LS => k (.bool b) H LS nx
        | _ => none))
    | _, _ => none)) vs
noncomputable def somes (l : List Value) (tl : List (Option Value)) : List (Option Value) := List.rec (motive := fun _ => List (Option Value)) tl (fun v _ ih => some v :: ih) l
noncomputable def appO (l tl : List (Option Value)) : List (Option Value) := List.rec (motive := fun _ => List (Option Value)) tl (fun v _ ih => v :: ih) l
noncomputable def callV (pg : Pg ρ) (ih : ExT ρ) : CallV ρ := fun fv vs H LS nx k => match fv with
  | .func (.func g) ⟨fs⟩ ⟨cs⟩ => callF pg ih g (somes fs (appO vs (somes cs []))) H LS nx k
  | .func (.yield l) ⟨[]⟩ ⟨[]⟩ => yieldK ih l vs H LS nx k
  | _ => none
/-- what is left to be done behind the loop -/
noncomputable def pendK (pe : Option Code) (k : AX → Option ρ) : Option ρ := match pe with
  | none => k .nrm
  | some .ret => k .ret
  | some (.exit id) => k (.ex id)
  | _ => none
noncomputable def rngK (pg : Pg ρ) (ih : ExT ρ) (L : T (List It)) (n : Nat) (r : Option Nat) (g : Operand) (ps : List Tmp) (as bd : Code) (env : T Value) (D : List DI) (H LS : AHeap) (nx : Nat) (k : AX → T Value → List DI → AHeap → AHeap → Nat → Option ρ) : Option ρ :=
  evK g env fun gv => match gv with
    | .func (.func f) ⟨fs⟩ ⟨cs⟩ => getK pg.FT f fun fk => (match fk with
      | .body b => (match r with
        | none => T.put (some .dfr) LS nx fun LS => T.put (some (.loop env n ps as bd L .ready none nx)) LS (Nat.succ nx) fun LS =>
          bodyK pg ih b (somes fs (some (.func (.yield (Nat.succ nx)) ⟨[]⟩ ⟨[]⟩) :: somes cs [])) H LS (Nat.succ (Nat.succ nx)) fun _ H LS nx' => getK LS (Nat.succ nx) fun o => loopK o fun _ _ _ _ _ _ st pe _ => ckK (!isBusy st) (T.put none LS (Nat.succ nx) fun LS => pendK pe fun x => k x env (.mark nx :: D) H LS nx')
        | some l0 => getK LS l0 fun o0 => loopK o0 fun _ _ _ _ _ _ _ _ db => T.put (some (.loop env n ps as bd L .ready none db)) LS nx fun LS =>
          bodyK pg ih b (somes fs (some (.func (.yield nx) ⟨[]⟩ ⟨[]⟩) :: somes cs [])) H LS (Nat.succ nx) fun _ H LS nx' => getK LS nx fun o => loopK o fun _ _ _ _ _ _ st pe _ => ckK (!isBusy st) (T.put none LS nx fun LS => pendK pe fun x => k x env D H LS nx'))
      | _ => none)
    | _ => none
/-! ### code -/
noncomputable def seqK (x : AX) (k1 : Option ρ) (k : AX → Option ρ) : Option ρ := match x with
  | .nrm => k1
  | .ret => k .ret
  | .ex id => k (.ex id)
noncomputable def blkK (id : Nat) (x : AX) (k : AX → Option ρ) : Option ρ := match x with
  | .nrm => k .nrm
  | .ret => k .ret
  | .ex j => Bool.rec (motive := fun _ => Option ρ) (k (.ex j)) (k .nrm) (Nat.beq j id)
noncomputable def regK (draw : Bool) (id : Nat) (ops : List Oper) : Pg ρ → ExT ρ → T (List It) → Option Nat → T Value → List DI → AHeap → AHeap → Nat → (AX → T Value → List DI → AHeap → AHeap → Nat → Option ρ) → Option ρ := match draw with
  | false => fun pg ih L r env D H LS nx k => runL pg.cf (callV pg ih) r ops ops env D H LS nx fun env D H LS nx => k .nrm env D H LS nx
  | true => fun pg ih L r env D H LS nx k => getK L id fun its => drK pg.cf (callV pg ih) ops its [] [] env H LS nx fun env H LS nx => k .nrm env D H LS nx
noncomputable def exF (c : Code) : Pg ρ → ExT ρ → T (List It) → Nat → Option Nat → T Value → List DI → AHeap → AHeap → Nat → (AX → T Value → List DI → AHeap → AHeap → Nat → Option ρ) → Option ρ := match c with
  | .skip => fun _ _ _ _ _ env D H LS nx k => k .nrm env D H LS nx
  | .ret => fun _ _ _ _ _ env D H LS nx k => k .ret env D H LS nx
  | .exit id => fun _ _ _ _ _ env D H LS nx k => k (.ex id) env D H LS nx
  | .region id ops draw => fun pg ih L _ r env D H LS nx k => regK draw id ops.toList pg ih L r env D H LS nx k
  | .seq a b => fun _ ih L n r env D H LS nx k => ih L n r a env D H LS nx fun x env D H LS nx => seqK x (ih L n r b env D H LS nx k) fun x => k x env D H LS nx
  | .cond c a b => fun _ ih L n r env D H LS nx k => evK c env fun v => boolK v fun t => Bool.rec (motive := fun _ => Option ρ) (ih L n r b env D H LS nx k) (ih L n r a env D H LS nx k) t
  | .block id c => fun _ ih L n r env D H LS nx k => ih L n r c env D H LS nx fun x env D H LS nx => blkK id x fun x => k x env D H LS nx
  | .loop c => fun _ ih L n r env D H LS nx k => ih L n r c env D H LS nx fun x env D H LS nx => seqK x (ih L n r (.loop c) env D H LS nx k) fun x => k x env D H LS nx
  | .rangeFunc g ps as bd => fun pg ih L n r env D H LS nx k => rngK pg ih L n r g ps.toList as bd env D H LS nx k
  | _ => fun _ _ _ _ _ _ _ _ _ _ _ => none
noncomputable def ex (pg : Pg ρ) (fuel : Nat) : ExT ρ :=
  Nat.rec (motive := fun _ => ExT ρ) (fun _ _ _ _ _ _ _ _ _ _ => none) (fun _ ih L n r c env D H LS nx k => exF c pg ih L n r env D H LS nx k) fuel
/-- a function, from the outside -/
noncomputable def runFn (pg : Pg ρ) (fuel : Nat) (g : FuncId) (vs : List (Option Value)) (H : AHeap) (nx : Nat) (k : Value → AHeap → Nat → Option ρ) : Option ρ := callF pg (ex pg fuel) g vs H .lf nx fun v H _ nx => k v H nx
end
end Go.Gsl
