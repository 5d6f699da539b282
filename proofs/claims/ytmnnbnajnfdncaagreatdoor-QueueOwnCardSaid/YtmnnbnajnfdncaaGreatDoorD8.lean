/- append of a slice that reads as a list, nil or not. -/
import Derived.Test.YtmnnbnajnfdncaaGreatDoorD7
set_option linter.unusedVariables false
set_option linter.unusedSimpArgs false
namespace Go.Proofs.YtmnnbnajnfdncaaGreatDoor
open Go.RowKit E
section
variable {P : Program} {n : Nat} {l : Fr} {w w' w0 : World} {Q : Exit → Act → World → Prop} {ops rest : List Oper} {ty : TypeId} {pos : String} {aft : Array Edge} {gd : Option (Nat × Bool)} {v vs : Value} {x y : Operand} {t e : TypeId} {base d : Nat}
theorem run_append_none {i : TypeInfo} (ht : P.underlying t = some (.slice e)) (hi : P.info? e = some i) {size k c : Nat} {xs : List Value} (own : w.ownsRow base e size v k xs) : (Builtin.append_ #[t, t] ty #[v, .slice none 0 c]).run P w = .ok v w := by
  rcases own.2 with ⟨rfl, rfl⟩ | ⟨g, cap, cur, rfl, _, _, hnc, _⟩
  · simp [Builtin.append_, run_underlying ht, sizeOf, typeInfo, hi, Builtin.lenOf, Builtin.firstCells]
  · simp [Builtin.append_, run_underlying ht, sizeOf, typeInfo, hi, Builtin.lenOf, Builtin.firstCells, hnc, storeCells]
theorem WL.appendR {α : Type} {R : Rd α} {F : FP} {ys : List α} {i : TypeInfo} {z0 : Value} {size bytes : Nat} (ht : P.underlying t = some (.slice e)) (hi : P.info? e = some i) (hz : i.zero = some z0) (hsize : i.size = size) (hby : i.bytes = bytes) (hzs : z0.cells.size = size) (hsz : 0 < size)
    {k : Nat} {xs : List Value} (hs : l.ev x = some v) (hx : l.ev y = some vs) (own : w.ownsRow base e size v k xs) (hsrc : RdS F w e size bytes R vs ys) (h1 : ∀ cs x, R F w cs x → ∀ u ∈ cs, u.oneCell' = true)
    (hbytes : (k + ys.length) * bytes ≤ 140737488355328) (hb0 : 0 < bytes) (hbase : base ≤ w.heap.size) (hg : want ops l gd = some true) (hn : Nat.blt d n = true)
    (kk : ∀ v' w' news, Rows R F w size news ys → w'.ownsRow base e size v' (k + ys.length) (xs ++ news) → w.grownBy w' v.ownBlock → WL P n ops Q rest ((d, v') :: l) w') :
    WL P n ops Q (⟨some d, .call ⟨.builtin .append, #[x, y], #[t, t]⟩, ty, pos, aft, gd⟩ :: rest) l w := by
  obtain ⟨A, c, rfl, hc, hby', hgd⟩ := id hsrc
  cases A with
  | none =>
    have hys : ys = [] := by
      cases ys with
      | nil => rfl
      | cons y r => obtain ⟨p, _, hp, _⟩ := hgd 0 y rfl; cases hp
    subst hys
    exact WL.val (v := v) (w' := w) (fun a ha => by
      have := run_append_none (P := P) (w := w) (ty := ty) (c := c) ht hi own
      simp [execOp, resolve, invoke, builtin, ha.ev hs, ha.ev hx, this]) hg rfl hn (kk v w [] Rows.nil (by simpa using own) ⟨rfl, rfl, rfl, Nat.le_refl _, fun _ _ _ => rfl⟩)
  | some p =>
    obtain ⟨news, rows, hat, _, _, _⟩ := hsrc.rows hsz
    exact E.WL.append ht hi hz hsize hby hzs hsz hs hx own hat rows.len (rows.one1 hsz h1) hbytes hb0 hbase hg hn (fun v' w' h1 h2 _ => kk v' w' news rows h1 h2)
end
section
variable {w w' : World} {base B : Nat} {v : Value} {nn : List Value}
theorem ownsRow_only {T k m : Nat} {xs : List Value} (h : w.ownsRow base T k v m xs) (hO : Only B w w') (hne : v.ownBlock ≠ some B) : w'.ownsRow base T k v m xs := by
  refine ⟨h.1, ?_⟩
  rcases h.2 with hn | ⟨g, cap, cur, rfl, hb, hgg, rest⟩
  · exact .inl hn
  · exact .inr ⟨g, cap, cur, rfl, hb, (hO.block g (fun e => hne (by rw [← e]; rfl))).trans hgg, rest⟩
theorem ONodes.only {xs : List NodeD} (h : ONodes base w v xs nn) (hO : Only B w w') (hT : HasT w 32 B) (hne : v.ownBlock ≠ some B) : ONodes base w' v xs nn :=
  ⟨ownsRow_only h.row hO hne, h.rows.to fun cs x hx => RNode.keeps hx (Keeps.only hO hT (S := fun U => U = 45) (by decide)) rfl⟩
theorem OTasks.only {xs : List TaskD} (h : OTasks base w v xs nn) (hO : Only B w w') (hT : HasT w 34 B) (hne : v.ownBlock ≠ some B) : OTasks base w' v xs nn :=
  ⟨ownsRow_only h.row hO hne, h.rows.to fun cs x hx => RTask.keeps hx (Keeps.only hO hT (S := fun U => U = 45) (by decide)) rfl⟩
end
end Go.Proofs.YtmnnbnajnfdncaaGreatDoor
