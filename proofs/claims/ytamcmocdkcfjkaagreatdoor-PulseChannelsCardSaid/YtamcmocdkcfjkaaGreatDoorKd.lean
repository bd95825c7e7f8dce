/-
  Operations without effect: what they do depends on what they read.
-/
import Derived.Test.YtamcmocdkcfjkaaGreatDoorKc
set_option linter.all false
/- Operations without effect: what they do depends on what they read. -/
section
namespace Gl
open Go

def Loc (h H : Heap) (rs : List Nat) : Prop := ∀ r ∈ rs, ∀ b, hget h r = some b → hget H r = some b

def Renames (mk : Nat → Value) : Prop := ∀ (ρ1 ρ2 : Rho) (i j : Nat) (c : Value), ρ1 i = ρ2 j → VR ρ1 c (mk i) → VR ρ2 c (mk j)

theorem Renames.ptr : Renames fun n => .pointer (some ⟨n, 0, none⟩) := by
  intro ρ1 ρ2 i j c e h
  cases h with
  | ptr h => exact .ptr (e ▸ h)
theorem Renames.slice (n : Nat) : Renames fun k => .slice (some ⟨k, 0, none⟩) n FULL := by
  intro ρ1 ρ2 i j c e h
  generalize hF : FULL = q at h
  cases h with
  | slice h h1 h2 h3 h4 => exact .slice (e ▸ h) h1 h2 h3 h4
  | anySlice => exact absurd hF FULL_ne_ANY
theorem Renames.map : Renames fun n => .map (some n) := by
  intro ρ1 ρ2 i j c e h
  cases h with
  | map h => exact .map (e ▸ h)

/-- What is said: nothing new, or a new block. -/
def LocR (P : Program) (op : Op) (ty : TypeId) (fr : Fr) (h H : Heap) (v : Value) (h1 : Heap) : Prop :=
  (h1 = h ∧ aop P op ty fr H = some (v, H)) ∨ ∃ mk b, v = mk (hsz h) ∧ h1 = hpush h b ∧ aop P op ty fr H = some (mk (hsz H), hpush H b) ∧ Renames mk

section
variable {P : Program} {ty : TypeId} {fr : Fr} {h H h1 : Heap} {v : Value}

theorem readCells_local {i off n : Nat} {l : List Value} (hr : readCells h i off n = some l) (hl : ∀ b, hget h i = some b → hget H i = some b) : readCells H i off n = some l := by
  unfold readCells at hr ⊢
  cases hh : hget h i with
  | none => rw [hh] at hr; simp at hr
  | some b => rw [hh] at hr; rw [hl b hh]; exact hr

theorem loadT_local {t : TI} {i off : Nat} {v : Value} (hr : loadT t h i off = some v) (hl : ∀ b, hget h i = some b → hget H i = some b) : loadT t H i off = some v := by
  unfold loadT at hr ⊢
  split
  · rename_i ha
    rw [if_pos ha] at hr
    obtain ⟨l, h1, h2⟩ := map_some hr
    rw [readCells_local h1 hl, ← h2]; rfl
  · rename_i ha
    rw [if_neg ha] at hr
    split at hr <;> simp at hr
    rename_i x hx
    rw [readCells_local hx hl, ← hr]

theorem srcCells_local {sz : Nat} {x : Value} {l : List Value} (hr : srcCells h sz x = some l) (hl : ∀ a n c, x = .slice (some a) n c → ∀ b, hget h a.block = some b → hget H a.block = some b) : srcCells H sz x = some l := by
  unfold srcCells at hr ⊢
  split at hr
  · exact hr
  · split at hr
    · rename_i h0; rw [if_pos h0]; exact hr
    · rename_i h0
      rw [if_neg h0]
      split at hr
      · simp at hr
      · rename_i h1
        rw [if_neg h1]
        exact readCells_local hr (hl _ _ _ rfl)
  · exact hr
  · simp at hr

theorem avail_local {i off sz A : Nat} (hA : avail h i off sz = some A) (hl : ∀ b, hget h i = some b → hget H i = some b) : avail H i off sz = some A := by
  unfold avail at hA ⊢
  split at hA <;> try (simp at hA; done)
  rename_i hg
  rw [hl _ hg]
  exact hA

theorem aslice_local {t : TypeId} {x : Value} {lo hi mx : Option Value} (hr : aslice P h t x lo hi mx = some v) (hl : ∀ a n c, x = .slice (some a) n c → ∀ b, hget h a.block = some b → hget H a.block = some b) : aslice P H t x lo hi mx = some v := by
  unfold aslice at hr ⊢
  split at hr
  · exact hr
  · exact hr
  · split at hr <;> try (simp at hr; done)
    split at hr <;> try (simp at hr; done)
    rename_i hte
    split at hr
    · rename_i hc
      rw [if_pos hc]
      split at hr <;> try (simp at hr; done)
      rename_i A hA
      rw [avail_local hA (hl _ _ _ rfl)]
      exact hr
    · rename_i hc
      rw [if_neg hc]
      exact hr
  · exact hr
  · simp at hr

theorem alookup_local {t : TypeId} {m k : Value} {ok : Bool} (hr : alookup P h t m k ok = some v) (hl : ∀ i, m = .map (some i) → ∀ b, hget h i = some b → hget H i = some b) : alookup P H t m k ok = some v := by
  unfold alookup at hr ⊢
  split at hr <;> try (simp at hr; done)
  rename_i r ht
  split at hr <;> try (simp at hr; done)
  split at hr <;> try (simp at hr; done)
  cases r with
  | none => exact hr
  | some i =>
    simp only at hr ⊢
    cases hh : hget h i with
    | none => rw [hh] at hr; simp at hr
    | some b => rw [hh] at hr; rw [hl _ rfl b hh]; exact hr

theorem alen_local {t : TypeId} {x : Value} (hr : alen P h t x = some v) (hl : ∀ i, x = .map (some i) → ∀ b, hget h i = some b → hget H i = some b) : alen P H t x = some v := by
  unfold alen at hr ⊢
  split at hr <;> try (simp at hr; done)
  split at hr <;> first | exact hr | skip
  · split at hr
    · rename_i hg
      rw [hl _ rfl _ hg]
      exact hr
    · simp at hr

theorem acap_local {t : TypeId} {x : Value} (hr : acap P h t x = some v) (hl : ∀ a n c, x = .slice (some a) n c → ∀ b, hget h a.block = some b → hget H a.block = some b) : acap P H t x = some v := by
  unfold acap at hr ⊢
  split at hr <;> try (simp at hr; done)
  split at hr <;> first | exact hr | skip
  · split at hr
    · rename_i hc
      rw [if_pos hc]
      split at hr
      · rename_i hg hte
        simp only [hl _ _ _ rfl _ hg, hte]
        exact hr
      · simp at hr
    · rename_i hc
      rw [if_neg hc]
      exact hr

theorem aop_local {op : Op} (ha : aop P op ty fr h = some (v, h1)) (he : isEff op = false) (hl : Loc h H (readsOf fr op)) : LocR P op ty fr h H v h1 := by
  have keep : ∀ {o O : Option Value}, o.map (fun v => (v, h)) = some (v, h1) → aop P op ty fr H = O.map (fun v => (v, H)) → (∀ x, o = some x → O = some x) → LocR P op ty fr h H v h1 := by
    intro o O ho hO hk
    obtain ⟨a, h2, h3⟩ := map_some ho
    cases h3
    exact .inl ⟨rfl, by rw [hO, hk _ h2]; rfl⟩
  have same : ∀ {o : Option Value}, o.map (fun v => (v, h)) = some (v, h1) → aop P op ty fr H = o.map (fun v => (v, H)) → LocR P op ty fr h H v h1 := fun ho hO => keep ho hO fun _ hx => hx
  cases op with
  | move x => simp only [aop, Option.some.injEq, Prod.mk.injEq] at ha; exact .inl ⟨ha.2.symm, by simp [aop, ha.1]⟩
  | assign x => simp only [aop, Option.some.injEq, Prod.mk.injEq] at ha; exact .inl ⟨ha.2.symm, by simp [aop, ha.1]⟩
  | pick c a b =>
    simp only [aop] at ha
    split at ha <;> simp at ha
    rename_i t hc
    exact .inl ⟨ha.2.symm, by simp [aop, hc, ha.1]⟩
  | alloc e =>
    simp only [aop] at ha
    split at ha <;> try (simp at ha; done)
    rename_i ti ht
    split at ha <;> try (simp at ha; done)
    rename_i z hz
    split at ha <;> simp [anew] at ha
    rename_i hp
    exact .inr ⟨fun n => .pointer (some ⟨n, 0, none⟩), _, ha.1.symm, ha.2.symm, by simp [aop, ht, hz, hp, anew], .ptr⟩
  | box e x =>
    simp only [aop] at ha
    split at ha <;> simp [anew] at ha
    rename_i hp
    exact .inr ⟨fun n => .pointer (some ⟨n, 0, none⟩), _, ha.1.symm, ha.2.symm, by simp only [aop]; rw [if_pos hp]; rfl, .ptr⟩
  | build t ps => exact same ha rfl
  | buildSlice t n ps =>
    simp only [aop] at ha
    unfold abuildSlice at ha
    split at ha <;> try (simp at ha; done)
    rename_i h1
    split at ha <;> try (simp at ha; done)
    rename_i h2
    split at ha <;> try (simp at ha; done)
    rename_i h3
    split at ha <;> try (simp at ha; done)
    rename_i h4
    split at ha <;> try (simp at ha; done)
    rename_i h5
    split at ha <;> try (simp at ha; done)
    rename_i h6
    split at ha <;> simp at ha
    rename_i h7
    refine .inr ⟨fun k => .slice (some ⟨k, 0, none⟩) n FULL, _, ha.1.symm, ha.2.symm, ?_, .slice n⟩
    simp only [aop]
    unfold abuildSlice
    simp only [h1, h2, h3, h4, h6]
    rw [if_pos h5, if_pos h7]
  | load t a =>
    refine keep ha rfl fun x hx => ?_
    unfold aload at hx ⊢
    split at hx <;> try (simp at hx; done)
    rename_i hti hav
    refine loadT_local hx (hl _ ?_)
    simp [readsOf, hav]
  | nilCheck x =>
    simp only [aop] at ha
    split at ha <;> simp at ha
    rename_i hs
    exact .inl ⟨ha.2.symm, by simp only [aop]; rw [if_pos hs, ha.1]⟩
  | binOp op t x y ty => exact same ha rfl
  | unOp op t x =>
    simp only [aop] at ha
    split at ha <;> try (simp at ha; done)
    rename_i hp
    exact same ha (by simp only [aop]; rw [if_pos hp])
  | convert s d x =>
    simp only [aop] at ha
    unfold aconvert at ha
    split at ha <;> try (simp at ha; done)
    rename_i si di hsi hdi
    split at ha
    · rename_i e b hu hx
      split at ha <;> try (simp at ha; done)
      rename_i h1
      split at ha <;> try (simp at ha; done)
      rename_i h2
      split at ha <;> simp at ha
      rename_i h3
      refine .inr ⟨fun k => .slice (some ⟨k, 0, none⟩) b.size FULL, _, ha.1.symm, ha.2.symm, ?_, .slice _⟩
      simp only [aop]
      unfold aconvert
      simp only [hsi, hdi, hu, hx, h1, h2]
      rw [if_pos h3]
    · rename_i e a n c hu1 hu2 hx
      split at ha <;> try (simp at ha; done)
      rename_i h1
      split at ha <;> try (simp at ha; done)
      rename_i h2
      split at ha <;> try (simp at ha; done)
      rename_i h3
      split at ha <;> try (simp at ha; done)
      rename_i l h4
      split at ha <;> try (simp at ha; done)
      rename_i h5
      have h4' : srcCells H 1 (.slice a n c) = some l := srcCells_local h4 (by
        intro a' n' c' e b hb
        cases e
        exact hl _ (by simp [readsOf, hx]) b hb)
      obtain ⟨r, h6, h7⟩ := map_some ha
      cases h7
      refine .inl ⟨rfl, ?_⟩
      simp only [aop]
      unfold aconvert
      simp only [hsi, hdi, hu1, hu2, hx, h1, h2, h4']
      rw [if_pos h3, if_pos h5, h6]
      rfl
    · rename_i hn1 hn2
      split at ha <;> try (simp at ha; done)
      rename_i hp
      refine same ha ?_
      simp only [aop]
      unfold aconvert
      simp only [hsi, hdi]
      rw [if_pos hp]
  | makeFunc fn first captured =>
    simp only [aop] at ha
    split at ha <;> simp at ha
    rename_i hp
    exact .inl ⟨ha.2.symm, by simp only [aop]; rw [if_pos hp, ha.1]⟩
  | makeMap t r =>
    simp only [aop] at ha
    split at ha
    · simp at ha; exact .inr ⟨fun n => .map (some n), _, ha.1.symm, ha.2.symm, by simp [aop], .map⟩
    · split at ha <;> try (simp at ha; done)
      rename_i h1 h2
      split at ha <;> simp at ha
      rename_i h3
      exact .inr ⟨fun n => .map (some n), _, ha.1.symm, ha.2.symm, by simp [aop, h1, h2, h3], .map⟩
  | makeSlice t l c =>
    simp only [aop] at ha
    unfold amakeSlice at ha
    split at ha <;> try (simp at ha; done)
    rename_i h1 h2 h3
    split at ha <;> try (simp at ha; done)
    rename_i h4
    split at ha <;> try (simp at ha; done)
    rename_i h5
    split at ha <;> try (simp at ha; done)
    rename_i h6
    split at ha <;> simp at ha
    rename_i h7
    refine .inr ⟨fun k => .slice (some ⟨k, 0, none⟩) _ FULL, _, ha.1.symm, ha.2.symm, ?_, .slice _⟩
    simp only [aop]
    unfold amakeSlice
    simp only [h1, h2, h3, h4, h5, h6]
    rw [if_pos h7]
  | slice t x lo hi mx =>
    simp only [aop] at ha
    split at ha <;> try (simp at ha; done)
    rename_i hp
    refine keep ha (by simp only [aop]; rw [if_pos hp]) fun y hy => aslice_local hy ?_
    intro a n c hx b hb
    exact hl _ (by simp [readsOf, hx]) b hb
  | fieldAddr t x f => exact same ha rfl
  | field t x f => exact same ha rfl
  | indexAddr t x i => exact same ha rfl
  | index t x i => exact same ha rfl
  | lookup t x k ok =>
    refine keep ha rfl fun y hy => alookup_local hy ?_
    intro i hx b hb
    exact hl _ (by simp [readsOf, hx]) b hb
  | range t x =>
    simp only [aop] at ha
    split at ha <;> try (simp at ha; done)
    rename_i h1 h2
    split at ha <;> simp at ha
    rename_i h3
    exact .inr ⟨fun n => .pointer (some ⟨n, 0, none⟩), _, ha.1.symm, ha.2.symm, by simp [aop, h1, h2, h3], .ptr⟩
  | extract x i =>
    simp only [aop] at ha
    split at ha <;> try (simp at ha; done)
    rename_i vs hx
    exact same ha (by simp only [aop, hx])
  | call c =>
    simp only [aop] at ha
    split at ha <;> try (simp at ha; done)
    rename_i b hb
    simp only [isEff, hb] at he
    unfold abuiltin at ha
    split at ha <;> try (simp at he; done)
    · rename_i x hx
      refine keep (O := (match c.argTypes.toList with | [t] => alen P H t x | _ => none)) ha (by simp only [aop, hb, hx]; unfold abuiltin; rfl) fun y hy => ?_
      split at hy <;> try (simp at hy; done)
      rename_i ht
      simp only [ht]
      refine alen_local hy fun i e b hb => hl i ?_ b hb
      simp [readsOf, hx, e]
    · rename_i x hx
      refine keep (O := (match c.argTypes.toList with | [t] => acap P H t x | _ => none)) ha (by simp only [aop, hb, hx]; unfold abuiltin; rfl) fun y hy => ?_
      split at hy <;> try (simp at hy; done)
      rename_i ht
      simp only [ht]
      refine acap_local hy fun a n c e b hb => hl a.block ?_ b hb
      simp [readsOf, hx, e]
    all_goals first
      | (simp at ha; done)
      | (split at ha <;> try (simp at ha; done)
         rename_i hp
         refine same ha ?_
         simp only [aop, hb]
         unfold abuiltin
         simp only
         rw [if_pos hp])
  | next it st => simp [isEff] at he
  | store t a v => simp [isEff] at he
  | mapUpdate t m k x => simp [isEff] at he
  | _ => simp [aop] at ha

end
end Gl
end

/- Regions that draw their order: what is read off the text, the trace, the order. -/
section
namespace Gl
open Go

/-! ### Two relations on one value -/
def Meet (ρ1 ρ2 ρ3 : Rho) : Prop := ∀ k g1 g2, ρ1 k = some g1 → ρ2 k = some g2 → ρ3 k = some g2

section
variable {ρ1 ρ2 ρ3 : Rho}
mutual
theorem VR.meet (m : Meet ρ1 ρ2 ρ3) : ∀ {c2 a : Value}, VR ρ2 c2 a → ∀ {c1 : Value}, VR ρ1 c1 a → VR ρ3 c2 a
  | _, _, .bool b, _, _ => .bool b
  | _, _, .int k n, _, _ => .int k n
  | _, _, .float k n, _, _ => .float k n
  | _, _, .complex k a b, _, _ => .complex k a b
  | _, _, .string s, _, _ => .string s
  | _, _, .nilPtr, _, _ => .nilPtr
  | _, _, .ptr h, _, h1 => by cases h1 with | ptr h1 => exact .ptr (m _ _ _ h1 h)
  | _, _, .nilSlice n c, _, _ => .nilSlice n c
  | _, _, .slice h h2 h3 h4 h5, _, h1 => by
    cases h1 with
    | slice k1 => exact .slice (m _ _ _ k1 h) h2 h3 h4 h5
    | anySlice => exact absurd rfl h4
  | _, _, .anySlice, _, _ => .anySlice
  | _, _, .nilMap, _, _ => .nilMap
  | _, _, .map h, _, h1 => by cases h1 with | map h1 => exact .map (m _ _ _ h1 h)
  | _, _, .nilChan, _, _ => .nilChan
  | _, _, .nilFunc, _, _ => .nilFunc
  | _, _, .nilIface, _, _ => .nilIface
  | _, _, .iface t h, _, h1 => by cases h1 with | iface _ h1 => exact .iface t (VR.meet m h h1)
  | _, _, .func fn hp hx hc, _, h1 => by
    cases h1 with
    | func _ _ k1 k2 => exact .func fn hp (VRs.meet m hx k1) (VRs.meet m hc k2)
    | yield _ => simp [plainFn] at hp
  | _, _, .yield h, _, h1 => by
    cases h1 with
    | func _ hp _ _ => simp [plainFn] at hp
    | yield h1 => exact .yield (m _ _ _ h1 h)
  | _, _, .agg h, _, h1 => by cases h1 with | agg h1 => exact .agg (VRs.meet m h h1)
  | _, _, .tuple h, _, h1 => by cases h1 with | tuple h1 => exact .tuple (VRs.meet m h h1)
theorem VRs.meet (m : Meet ρ1 ρ2 ρ3) : ∀ {c2 a : List Value}, VRs ρ2 c2 a → ∀ {c1 : List Value}, VRs ρ1 c1 a → VRs ρ3 c2 a
  | _, _, .nil, _, _ => .nil
  | _, _, .cons h t, _, h1 => by cases h1 with | cons k1 k2 => exact .cons (VR.meet m h k1) (VRs.meet m t k2)
end

theorem MapR.meet (m : Meet ρ1 ρ2 ρ3) : ∀ {e1 e2 : List MapEntry} {l : List (Value × Value)}, MapR ρ1 e1 l → MapR ρ2 e2 l → MapR ρ3 e2 l
  | _, _, _, _, .nil => .nil
  | _, _, _, h1, .cons hk hv t => by cases h1 with | cons k1 k2 k3 => exact .cons (VR.meet m hk k1) (VR.meet m hv k2) (MapR.meet m k3 t)

theorem FrR.meet (m : Meet ρ1 ρ2 ρ3) {nt n1 : Nat} {t1 t2 : Array Value} {fr : Fr} (h1 : FrR ρ1 n1 t1 fr) (h2 : FrR ρ2 nt t2 fr) : FrR ρ3 nt t2 fr :=
  ⟨h2.1, fun t => VR.meet m (h2.2 t) (h1.2 t)⟩

theorem BR.meet {G : List Nat} (m : Meet ρ1 ρ2 ρ3) {p1 p2 : Array Obj} {g1 g2 : Gh} {b : Blk} (h1 : BR G ρ1 p1 g1 b) (h2 : BR G ρ2 p2 g2 b) : BR G ρ3 p2 g2 b := by
  cases b with
  | cells c esz rw full =>
    obtain ⟨c1, e1, f1, a1, r1⟩ := h1
    obtain ⟨c2, e2, f2, a2, r2⟩ := h2
    refine ⟨c2, e2, f2, a2, { r2 with get := fun k v e => ?_ }⟩
    obtain ⟨v1, _, k1⟩ := r1.get k v e
    obtain ⟨v2, e2, k2⟩ := r2.get k v e
    exact ⟨v2, e2, VR.meet m k2 k1⟩
  | map es =>
    obtain ⟨_, _, _, m1, _⟩ := h1
    obtain ⟨x, y, z, m2, hb⟩ := h2
    exact ⟨x, y, z, m1.meet m m2, hb⟩
  | siter s pos => exact h2
  | loop st pend nt fr ps as bd =>
    obtain ⟨_, _, _, _, f1, _⟩ := h1
    obtain ⟨x, y, z, e, f2, ok⟩ := h2
    exact ⟨x, y, z, e, f1.meet m f2, ok⟩
  | anyInt => exact h2
  | table c => exact h2
  | dead => trivial

end

/-- Only what is known of a memory counts. -/
theorem Rep.congr {G : List Nat} {ρ : Rho} {heap : Array Obj} {h h' : Heap} (R : Rep G ρ heap h) (he : ∀ k g, ρ k = some g → hget h' k = hget h k) : Rep G ρ heap h' := by
  refine ⟨fun i g e => ?_, fun i j g g' b b' e1 e2 h1 h2 => ?_, R.glob, R.lt⟩
  · obtain ⟨b, hb, hr⟩ := R.blk i g e
    exact ⟨b, (he i g e).trans hb, hr⟩
  · rw [he i g e1] at h1
    rw [he j g' e2] at h2
    exact R.inj i j g g' b b' e1 e2 h1 h2

/-! ### The order of a region -/
theorem foldl_bits {acc : Array Nat} {D : Nat → Prop} : ∀ (l : List Edge) (s : Nat) (i : Nat), (∀ e ∈ l, Region.binds .any e = true → D e.on ∧ ∀ i, (acc.getD e.on 0).testBit i = true → D i) → (∀ i, s.testBit i = true → D i) →
    (l.foldl (fun s e => if Region.binds .any e then s ||| 2 ^ e.on ||| acc.getD e.on 0 else s) s).testBit i = true → D i
  | [], s, i, _, hs, h => hs i h
  | e :: l, s, i, he, hs, h => by
    simp only [List.foldl_cons] at h
    refine foldl_bits l _ i (fun e' h' => he e' (by simp [h'])) ?_ h
    intro i' hi'
    split at hi'
    · rename_i hb
      obtain ⟨h1, h2⟩ := he e (by simp) hb
      rw [Nat.testBit_or, Nat.testBit_or, Bool.or_eq_true, Bool.or_eq_true] at hi'
      rcases hi' with (hi' | hi') | hi'
      · exact hs i' hi'
      · rw [Nat.testBit_two_pow] at hi'
        have : e.on = i' := by simpa using hi'
        exact this ▸ h1
      · exact h2 i' hi'
    · exact hs i' hi'

/-- What comes before an operation is listed, if its edges lead to what is listed. -/
theorem pre_down {ops : Array Oper} {D : Nat → Prop} (hc : ∀ j o, ops[j]? = some o → D j → ∀ e ∈ o.after, Region.binds .any e = true → D e.on) {j : Nat} {o : Oper} (ho : ops[j]? = some o)
    (hj : ∀ e ∈ o.after, Region.binds .any e = true → D e.on) {i : Nat} (hp : pre ops i j = true) : D i := by
  have key : ∀ (l : List Oper) (acc : Array Nat) (k : Nat), acc.size = k → (∀ m, l[m]? = ops[k + m]?) → (∀ j o, j < k → ops[j]? = some o → (∀ e ∈ o.after, Region.binds .any e = true → D e.on) → ∀ i, (acc.getD j 0).testBit i = true → D i) →
      ∀ j o, ops[j]? = some o → (∀ e ∈ o.after, Region.binds .any e = true → D e.on) → ∀ i, ((l.foldl (fun acc (o : Oper) => acc.push (o.after.foldl (fun s e => if Region.binds .any e then s ||| 2 ^ e.on ||| acc.getD e.on 0 else s) 0)) acc).getD j 0).testBit i = true → D i := by
    intro l
    induction l with
    | nil =>
      intro acc k hk hl ha j o ho hj i hi
      have := hl 0
      simp only [List.getElem?_nil, Nat.add_zero] at this
      have hlt : j < k := by
        have h1 : ops.size ≤ k := by simpa using this.symm
        have h2 := (Array.getElem?_eq_some_iff.1 ho).1
        omega
      exact ha j o hlt ho hj i hi
    | cons x l ih =>
      intro acc k hk hl ha
      simp only [List.foldl_cons]
      refine ih _ (k + 1) (by simp [hk]) (fun m => ?_) ?_
      · have := hl (m + 1)
        simpa [Nat.add_assoc, Nat.add_comm 1 m] using this
      · intro j o hlt ho hj i hi
        rcases Nat.lt_or_ge j k with h1 | h1
        · rw [Array.getD_eq_getD_getElem?, Array.getElem?_push, if_neg (by omega), ← Array.getD_eq_getD_getElem?] at hi
          exact ha j o h1 ho hj i hi
        · have hjk : j = k := by omega
          subst hjk
          rw [Array.getD_eq_getD_getElem?, Array.getElem?_push, if_pos hk.symm, Option.getD_some, ← Array.foldl_toList] at hi
          have hx : x = o := by
            have := hl 0
            simp only [List.getElem?_cons_zero, Nat.add_zero, ho, Option.some.injEq] at this
            exact this
          subst hx
          refine foldl_bits (D := D) _ 0 i (fun e he hb => ?_) (by simp) hi
          have hD := hj e (by simpa using he) hb
          refine ⟨hD, fun i' hi' => ?_⟩
          rcases Nat.lt_or_ge e.on acc.size with h2 | h2
          · cases hoe : ops[e.on]? with
            | none =>
              have h3 : ops.size ≤ e.on := by simpa using hoe
              have h4 := (Array.getElem?_eq_some_iff.1 ho).1
              omega
            | some oe => exact ha e.on oe (by omega) hoe (hc e.on oe hoe hD) i' hi'
          · rw [Array.getD_eq_getD_getElem?, Array.getElem?_eq_none h2] at hi'
            simp at hi'
  unfold pre Region.before at hp
  rw [← Array.foldl_toList] at hp
  exact key ops.toList #[] 0 rfl (fun m => by simp) (fun j o h => by omega) j o ho hj i hp

/-! ### What 'drawOk' says -/
structure DrawT (ops : Array Oper) : Prop where
  back : ∀ j o, ops[j]? = some o → ∀ e ∈ o.after, Region.binds .any e = true → e.on < j
  guard : ∀ (j : Nat) (o : Oper) (k : Nat) (b : Bool), ops[j]? = some o → o.guard = some (k, b) → (∃ e ∈ o.after, e.on = k ∧ Region.binds .any e = true) ∧ ∀ z oz ok t, ops[z]? = some oz → ops[k]? = some ok → oz.dst = some t → ok.dst = some t → z = k
  tmps : ∀ i j oi oj t, ops[i]? = some oi → ops[j]? = some oj → i ≠ j → oi.dst = some t → t ∈ namesOf oj → ordered ops i j = true
  effs : ∀ i j oi oj, ops[i]? = some oi → ops[j]? = some oj → isEff oi.op = true → isEff oj.op = true → i < j → pre ops i j = true

theorem mem_zip {ops : Array Oper} {i : Nat} {o : Oper} (h : ops[i]? = some o) : (o, i) ∈ ops.toList.zipIdx := by
  rw [List.mem_zipIdx_iff_getElem?]
  simpa using h

theorem drawOk_spec {ops : Array Oper} (h : drawOk ops = true) : DrawT ops := by
  unfold drawOk at h
  simp only [Bool.and_eq_true, List.all_eq_true] at h
  obtain ⟨⟨h1, h2⟩, h3⟩ := h
  refine ⟨fun j o ho e he hb => ?_, fun j o k b ho hg => ?_, fun i j oi oj t hi hj hne hd ht => ?_, fun i j oi oj hi hj he1 he2 hlt => ?_⟩
  · have := (h1 _ (mem_zip ho)).1 e (by simpa using he)
    simpa [hb] using this
  · have := (h1 _ (mem_zip ho)).2
    simp only [hg, Bool.and_eq_true, List.all_eq_true, List.any_eq_true] at this
    obtain ⟨⟨e, he1, he2⟩, hz⟩ := this
    refine ⟨⟨e, by simpa using he1, by simpa using he2.1, he2.2⟩, fun z oz ok t hz1 hk hd1 hd2 => ?_⟩
    have := hz _ (mem_zip hz1)
    simpa [hk, hd1, hd2] using this
  · have := h2 _ (mem_zip hj) _ (mem_zip hi)
    simp only [hd, Bool.or_eq_true, beq_iff_eq] at this
    rcases this with (h | h) | h
    · exact absurd h hne
    · simp only [Bool.not_eq_true', List.contains_eq_mem, decide_eq_false_iff_not] at h
      exact absurd ht h
    · exact h
  · have := h3 _ (mem_zip hj) _ (mem_zip hi)
    simpa [he1, he2, hlt] using this

/-! ### The trace, by numbers -/
def StpAt (C : Ctx) (ops : Array Oper) (frs : Nat → Fr) (hs : Nat → Heap) (i : Nat) (o : Oper) : Prop :=
  (wantedA ops o (frs i) = false ∧ frs (i + 1) = fput (frs i) o.dst undef ∧ hs (i + 1) = hs i) ∨
  (wantedA ops o (frs i) = true ∧ ∃ v, frs (i + 1) = fput (frs i) o.dst v ∧ OpSem C o (frs i) (hs i) v (hs (i + 1)) ∧ (isEff o.op = false → aop C.P o.op o.type (frs i) (hs i) = some (v, hs (i + 1))))
def EffAt (ops : Array Oper) (frs : Nat → Fr) (hs : Nat → Heap) (i0 : Nat) (E : Nat × Heap × Heap) : Prop :=
  ∃ o, i0 ≤ E.1 ∧ ops[E.1]? = some o ∧ isEff o.op = true ∧ wantedA ops o (frs E.1) = true ∧ E.2.1 = hs E.1 ∧ E.2.2 = hs (E.1 + 1)
def RdAt (ops : Array Oper) (frs : Nat → Fr) (hs : Nat → Heap) (i0 : Nat) (R : Nat × Nat) : Prop :=
  ∃ o, i0 ≤ R.1 ∧ ops[R.1]? = some o ∧ isEff o.op = false ∧ wantedA ops o (frs R.1) = true ∧ (R.2 ∈ readsOf (frs R.1) o.op ∨ (R.2 = hsz (hs R.1) ∧ hsz (hs (R.1 + 1)) ≠ hsz (hs R.1)))
def Calm1 (ops : Array Oper) (E : Nat × Heap × Heap) (R : Nat × Nat) : Prop := hget E.2.1 R.2 = hget E.2.2 R.2 ∨ ordered ops E.1 R.1 = true

theorem calmB_spec {ops : Array Oper} {es : List (Nat × Heap × Heap)} {rs : List (Nat × Nat)} : calmB ops es rs = true ↔ ∀ E ∈ es, ∀ R ∈ rs, Calm1 ops E R := by
  unfold calmB
  simp [List.all_eq_true, Calm1]

theorem DTr.gen {C : Ctx} {ops : Array Oper} {i : Nat} {es : List (Nat × Heap × Heap)} {rs : List (Nat × Nat)} {fr fr' : Fr} {h h' : Heap} (t : DTr C ops i es rs fr h fr' h') : i ≤ ops.size → calmB ops es rs = true →
    ∃ (frs : Nat → Fr) (hs : Nat → Heap), frs i = fr ∧ hs i = h ∧ frs ops.size = fr' ∧ hs ops.size = h' ∧ (∀ j o, i ≤ j → ops[j]? = some o → StpAt C ops frs hs j o) ∧
      ∀ E R, (E ∈ es ∨ EffAt ops frs hs i E) → (R ∈ rs ∨ RdAt ops frs hs i R) → Calm1 ops E R := by
  have hlt : ∀ {j : Nat} {o : Oper}, ops[j]? = some o → j < ops.size := fun h => (Array.getElem?_eq_some_iff.1 h).1
  induction t with
  | done hi =>
    intro hle hc
    rename_i i es rs fr h
    have : ops.size ≤ i := by simpa using hi
    have hie : i = ops.size := by omega
    refine ⟨fun _ => fr, fun _ => h, rfl, rfl, rfl, rfl, fun j o hj ho => ?_, fun E R hE hR => ?_⟩
    · have := hlt ho; omega
    · rw [calmB_spec] at hc
      rcases hE with hE | ⟨o, h1, h2, _⟩
      · rcases hR with hR | ⟨o, h1, h2, _⟩
        · exact hc E hE R hR
        · have := hlt h2; omega
      · have := hlt h2; omega
  | skip hi hw t ih =>
    intro hle hc
    rename_i i es rs fr fr' h h' o
    obtain ⟨frs, hs, e1, e2, e3, e4, e5, e6⟩ := ih (hlt hi) hc
    have hsi := hlt hi
    have up : ∀ j, i < j → (fun j => if j ≤ i then fr else frs j) j = frs j := fun j hj => if_neg (by omega)
    have uph : ∀ j, i < j → (fun j => if j ≤ i then h else hs j) j = hs j := fun j hj => if_neg (by omega)
    refine ⟨fun j => if j ≤ i then fr else frs j, fun j => if j ≤ i then h else hs j, by simp, by simp, by simp only; rw [if_neg (by omega)]; exact e3, by simp only; rw [if_neg (by omega)]; exact e4, fun j o' hj ho => ?_, fun E R hE hR => ?_⟩
    · by_cases hji : j = i
      · subst hji
        rw [hi] at ho; cases ho
        refine .inl ⟨by simpa using hw, ?_, ?_⟩
        · simp only [up (j + 1) (by omega), Nat.le_refl, if_true]; exact e1
        · simp only [uph (j + 1) (by omega), Nat.le_refl, if_true]; exact e2
      · have := e5 j o' (by omega) ho
        unfold StpAt at this ⊢
        rw [up j (by omega), up (j + 1) (by omega), uph j (by omega), uph (j + 1) (by omega)]
        exact this
    · refine e6 E R (hE.imp id ?_) (hR.imp id ?_)
      · rintro ⟨o', h1, h2, h3, h4, h5, h6⟩
        by_cases hji : E.1 = i
        · rw [hji] at h2 h4
          rw [hi] at h2; cases h2
          simp only [Nat.le_refl, if_true] at h4
          rw [hw] at h4; cases h4
        · rw [up _ (by omega)] at h4
          rw [uph _ (by omega)] at h5
          rw [uph _ (by omega)] at h6
          exact ⟨o', by omega, h2, h3, h4, h5, h6⟩
      · rintro ⟨o', h1, h2, h3, h4, h5⟩
        by_cases hji : R.1 = i
        · rw [hji] at h2 h4
          rw [hi] at h2; cases h2
          simp only [Nat.le_refl, if_true] at h4
          rw [hw] at h4; cases h4
        · rw [up _ (by omega)] at h4 h5
          rw [uph _ (by omega), uph _ (by omega)] at h5
          exact ⟨o', by omega, h2, h3, h4, h5⟩
  | step hi hw hsem he hl t ih =>
    intro hle hc
    rename_i i es rs fr fr' h h1 h' o v
    have hl' : calmB ops (grown o.op fr h h1 i es rs).1 (grown o.op fr h h1 i es rs).2 = true := by simpa [lookD] using hl
    obtain ⟨frs, hs, e1, e2, e3, e4, e5, e6⟩ := ih (hlt hi) hl'
    have hsi := hlt hi
    have up : ∀ j, i < j → (fun j => if j ≤ i then fr else frs j) j = frs j := fun j hj => if_neg (by omega)
    have uph : ∀ j, i < j → (fun j => if j ≤ i then h else hs j) j = hs j := fun j hj => if_neg (by omega)
    refine ⟨fun j => if j ≤ i then fr else frs j, fun j => if j ≤ i then h else hs j, by simp, by simp, by simp only; rw [if_neg (by omega)]; exact e3, by simp only; rw [if_neg (by omega)]; exact e4, fun j o' hj ho => ?_, fun E R hE hR => ?_⟩
    · by_cases hji : j = i
      · subst hji
        rw [hi] at ho; cases ho
        refine .inr ⟨by simpa using hw, v, ?_, ?_, ?_⟩
        · simp only [up (j + 1) (by omega), Nat.le_refl, if_true]; exact e1
        · simp only [uph (j + 1) (by omega), Nat.le_refl, if_true]; rw [e2]; exact hsem
        · simp only [uph (j + 1) (by omega), Nat.le_refl, if_true]; rw [e2]; exact he
      · have := e5 j o' (by omega) ho
        unfold StpAt at this ⊢
        rw [up j (by omega), up (j + 1) (by omega), uph j (by omega), uph (j + 1) (by omega)]
        exact this
    · refine e6 E R ?_ ?_
      · rcases hE with hE | ⟨o', h1, h2, h3, h4, h5, h6⟩
        · refine .inl ?_
          unfold grown
          split
          · exact List.mem_cons_of_mem _ hE
          · exact hE
        · by_cases hji : E.1 = i
          · rw [hji] at h2 h5 h6
            rw [hi] at h2; cases h2
            simp only [Nat.le_refl, if_true] at h5
            rw [uph (i + 1) (by omega), e2] at h6
            refine .inl ?_
            unfold grown
            rw [if_pos h3]
            obtain ⟨a, b, c⟩ := E
            simp only at hji h5 h6
            subst hji h5 h6
            exact List.mem_cons_self
          · rw [up _ (by omega)] at h4
            rw [uph _ (by omega)] at h5
            rw [uph _ (by omega)] at h6
            exact .inr ⟨o', by omega, h2, h3, h4, h5, h6⟩
      · rcases hR with hR | ⟨o', h1', h2, h3, h4, h5⟩
        · refine .inl ?_
          unfold grown
          split
          · exact hR
          · simp [hR]
        · by_cases hji : R.1 = i
          · rw [hji] at h2 h5
            rw [hi] at h2; cases h2
            simp only [Nat.le_refl, if_true] at h5
            have hu := uph (i + 1) (by omega)
            simp only at hu
            rw [hu, e2] at h5
            refine .inl ?_
            unfold grown
            rw [if_neg (by simp [h3])]
            obtain ⟨a, r⟩ := R
            simp only at hji h5
            subst hji
            simp only [List.mem_append, List.mem_map]
            rcases h5 with h5 | ⟨h5, h6⟩
            · exact .inl (.inl ⟨r, h5, rfl⟩)
            · refine .inl (.inr ?_)
              rw [if_neg h6, h5]; simp
          · rw [up _ (by omega)] at h4 h5
            rw [uph _ (by omega), uph _ (by omega)] at h5
            exact .inr ⟨o', by omega, h2, h3, h4, h5⟩

end Gl
end

/- Regions that draw their order: the memory behind a part of the operations. -/
section
namespace Gl
open Go

/-- What a region does in the order of the text: all that is used of it. -/
structure Text (C : Ctx) (nt : Nat) (ops : Array Oper) (frs : Nat → Fr) (hs : Nat → Heap) (ρ0 : Rho) (w0 : World) : Prop where
  dr : DrawT ops
  ok : ops.toList.all (okOper nt C.G) = true
  stp : ∀ j o, ops[j]? = some o → StpAt C ops frs hs j o
  calm : ∀ E R, EffAt ops frs hs 0 E → RdAt ops frs hs 0 R → Calm1 ops E R
  txt : ∀ i, i ≤ ops.size → ∃ ρt wt at', Rep C.G ρt wt.heap (hs i) ∧ Step ρ0 w0 (hs 0) ρt wt (hs i) ∧ FrR ρt nt (Act.tmps at') (frs i)
  one : ∀ i o, ops[i]? = some o → hsz (hs i) ≤ hsz (hs (i + 1))

section
variable {C : Ctx} {nt : Nat} {ops : Array Oper} {frs : Nat → Fr} {hs : Nat → Heap} {ρ0 : Rho} {w0 : World}

/-- The first that is known of a block from an operation on. -/
def cnt (hs : Nat → Heap) : Nat → Nat → Nat → Option Blk
  | 0, p, k => hget (hs p) k
  | m + 1, p, k => match hget (hs p) k with
    | some b => some b
    | none => cnt hs m (p + 1) k

def cntAt (ops : Array Oper) (hs : Nat → Heap) (p k : Nat) : Option Blk := cnt hs (ops.size - p) p k

theorem cnt_eq {p k : Nat} {b : Blk} (h : hget (hs p) k = some b) : cntAt ops hs p k = some b := by
  unfold cntAt
  cases ops.size - p <;> simp [cnt, h]

theorem cnt_next {p k : Nat} (hp : p < ops.size) (h : hget (hs p) k = none) : cntAt ops hs p k = cntAt ops hs (p + 1) k := by
  unfold cntAt
  obtain ⟨m, hm⟩ : ∃ m, ops.size - p = m + 1 := ⟨ops.size - p - 1, by omega⟩
  have : ops.size - (p + 1) = m := by omega
  rw [hm, this]
  simp [cnt, h]

theorem cnt_upto {k : Nat} {b : Blk} : ∀ (d p : Nat), p + d ≤ ops.size → (∀ j, p ≤ j → j < p + d → hget (hs j) k = none ∨ hget (hs j) k = some b) → hget (hs (p + d)) k = some b → cntAt ops hs p k = some b
  | 0, p, _, _, h => cnt_eq h
  | d + 1, p, hp, hj, h => by
    rcases hj p (Nat.le_refl _) (by omega) with h1 | h1
    · rw [cnt_next (by omega) h1]
      exact cnt_upto d (p + 1) (by omega) (fun j h2 h3 => hj j (by omega) (by omega)) (by rw [Nat.add_right_comm] ; exact h)
    · exact cnt_eq h1

def mem (ops : Array Oper) (hs : Nat → Heap) (p : Nat) : Heap := (List.range (hsz (hs ops.size))).map fun k => (cntAt ops hs p k).getD .dead

theorem hsz_mem {p : Nat} : hsz (mem ops hs p) = hsz (hs ops.size) := by simp [mem, hsz]
theorem hget_mem {p k : Nat} (hk : k < hsz (hs ops.size)) : hget (mem ops hs p) k = some ((cntAt ops hs p k).getD .dead) := by
  unfold hget mem
  simp [hk]
theorem hget_mem_lt {p k : Nat} {b : Blk} (h : hget (mem ops hs p) k = some b) : k < hsz (hs ops.size) := by
  have := hget_lt h
  rwa [hsz_mem] at this
theorem mem_eq {p k : Nat} {b : Blk} (hk : k < hsz (hs ops.size)) (h : cntAt ops hs p k = some b) : hget (mem ops hs p) k = some b := by
  rw [hget_mem hk, h]; rfl

theorem lt_of {j : Nat} {o : Oper} (h : ops[j]? = some o) : j < ops.size := (Array.getElem?_eq_some_iff.1 h).1

variable (T : Text C nt ops frs hs ρ0 w0)
include T

theorem Text.sz {i j : Nat} (h : i ≤ j) (hj : j ≤ ops.size) : hsz (hs i) ≤ hsz (hs j) := by
  induction j with
  | zero => have : i = 0 := by omega
            subst this; exact Nat.le_refl _
  | succ j ih =>
    rcases Nat.lt_or_ge j i with h1 | h1
    · have : i = j + 1 := by omega
      subst this; exact Nat.le_refl _
    · have hlt : j < ops.size := by omega
      exact Nat.le_trans (ih h1 (by omega)) (T.one j ops[j] (Array.getElem?_eq_getElem hlt))

/-- An operation without effect: nothing, or a new block. -/
theorem Text.calmOp {j : Nat} {o : Oper} (ho : ops[j]? = some o) (he : isEff o.op = false) : hs (j + 1) = hs j ∨ ∃ b, hs (j + 1) = hpush (hs j) b := by
  rcases T.stp j o ho with ⟨_, _, h⟩ | ⟨_, v, _, _, h⟩
  · exact .inl h
  · exact aop_calm (h he) he

theorem Text.calmGet {j k : Nat} {o : Oper} (ho : ops[j]? = some o) (he : isEff o.op = false) (hk : k < hsz (hs j)) : hget (hs (j + 1)) k = hget (hs j) k := by
  rcases T.calmOp ho he with h | ⟨b, h⟩
  · rw [h]
  · rw [h, hget_push, if_neg (by omega)]

theorem Text.shift1 {p k : Nat} (hp : p < ops.size) (hne : ∀ o, ops[p]? = some o → isEff o.op = false) : cntAt ops hs p k = cntAt ops hs (p + 1) k := by
  cases hk : hget (hs p) k with
  | none => exact cnt_next hp hk
  | some b =>
    have ho := Array.getElem?_eq_getElem hp
    rw [cnt_eq hk, cnt_eq (p := p + 1) (b := b)]
    rw [T.calmGet ho (hne _ ho) (hget_lt hk)]; exact hk

theorem Text.shift {p e k : Nat} (hpe : p ≤ e) (he : e ≤ ops.size) (hne : ∀ j o, p ≤ j → j < e → ops[j]? = some o → isEff o.op = false) : cntAt ops hs p k = cntAt ops hs e k := by
  induction e with
  | zero => have : p = 0 := by omega
            subst this; rfl
  | succ e ih =>
    rcases Nat.lt_or_ge e p with h1 | h1
    · have : p = e + 1 := by omega
      subst this; rfl
    · rw [ih h1 (by omega) (fun j o h2 h3 => hne j o h2 (by omega))]
      exact T.shift1 (by omega) (fun o ho => hne e o h1 (by omega) ho)

theorem Text.shiftMem {p e : Nat} (hpe : p ≤ e) (he : e ≤ ops.size) (hne : ∀ j o, p ≤ j → j < e → ops[j]? = some o → isEff o.op = false) : mem ops hs p = mem ops hs e := by
  unfold mem
  refine List.map_congr_left fun k _ => ?_
  rw [T.shift hpe he hne]

/-- What is read by an operation that may come now lies as in the text. -/
theorem Text.stable {D : Nat → Prop} {p i r : Nat} {o : Oper} {b : Blk} (hcl : ∀ j o, ops[j]? = some o → D j → ∀ e ∈ o.after, Region.binds .any e = true → D e.on) (hpos : ∀ e o, ops[e]? = some o → isEff o.op = true → (e < p ↔ D e)) (hple : p ≤ ops.size)
    (ho : ops[i]? = some o) (he : isEff o.op = false) (hw : wantedA ops o (frs i) = true) (hi : ¬ D i) (hr : ∀ e ∈ o.after, Region.binds .any e = true → D e.on) {m : Nat} (hm : m = i ∨ m = i + 1) (hm2 : ∀ j, j < m → m = i + 1 → hget (hs j) r = none)
    (hrd : r ∈ readsOf (frs i) o.op ∨ (r = hsz (hs i) ∧ hsz (hs (i + 1)) ≠ hsz (hs i))) (hb : hget (hs m) r = some b) : cntAt ops hs p r = some b := by
  have hil := lt_of ho
  -- an effect that is not ordered with the operation leaves the place alone
  have eff : ∀ j oj, ops[j]? = some oj → isEff oj.op = true → (j < i → ¬ D j) → (i < j → D j) → hget (hs j) r = hget (hs (j + 1)) r := by
    intro j oj hoj hej hj1 hj2
    have hne : j ≠ i := fun e => by subst e; rw [ho] at hoj; cases hoj; rw [he] at hej; cases hej
    by_cases hwj : wantedA ops oj (frs j) = true
    · rcases T.calm (j, hs j, hs (j + 1)) (i, r) ⟨oj, Nat.zero_le _, hoj, hej, hwj, rfl, rfl⟩ ⟨o, Nat.zero_le _, ho, he, hw, hrd⟩ with h | h
      · exact h
      · simp only [ordered] at h
        exfalso
        rcases Nat.lt_or_gt_of_ne hne with h1 | h1
        · rw [Nat.min_eq_left (by omega), Nat.max_eq_right (by omega)] at h
          exact hj1 h1 (pre_down hcl ho hr h)
        · rw [Nat.min_eq_right (by omega), Nat.max_eq_left (by omega)] at h
          exact hi (pre_down hcl hoj (hcl j oj hoj (hj2 h1)) h)
    · rcases T.stp j oj hoj with ⟨_, _, h⟩ | ⟨h, _⟩
      · rw [h]
      · exact absurd h hwj
  rcases Nat.lt_or_ge m p with hpm | hpm
  · -- done effects behind the operation
    have : ∀ d, m + d ≤ p → hget (hs (m + d)) r = some b := by
      intro d
      induction d with
      | zero => intro _; exact hb
      | succ d ih =>
        intro hd
        have h1 := ih (by omega)
        have hoj := Array.getElem?_eq_getElem (xs := ops) (i := m + d) (by omega)
        by_cases hej : isEff (ops[m + d]'(by omega)).op = true
        · rw [← Nat.add_assoc, ← eff (m + d) _ hoj hej (fun h => by omega) (fun _ => (hpos _ _ hoj hej).1 (by omega))]
          exact h1
        · rw [← Nat.add_assoc, T.calmGet hoj (by simpa using hej) (hget_lt h1)]
          exact h1
    have hp := this (p - m) (by omega)
    rw [Nat.add_sub_cancel' (by omega)] at hp
    exact cnt_eq hp
  · -- effects that are not done, before the operation
    have back : ∀ d, p + d ≤ m → hget (hs (m - d)) r = none ∨ hget (hs (m - d)) r = some b := by
      intro d
      induction d with
      | zero => intro _; exact .inr hb
      | succ d ih =>
        intro hd
        have hoj := Array.getElem?_eq_getElem (xs := ops) (i := m - (d + 1)) (by omega)
        have hs1 : m - (d + 1) + 1 = m - d := by omega
        by_cases h0 : m = i + 1 ∧ d = 0
        · exact .inl (hm2 _ (by omega) h0.1)
        · have h1 := ih (by omega)
          by_cases hej : isEff (ops[m - (d + 1)]'(by omega)).op = true
          · rw [eff (m - (d + 1)) _ hoj hej (fun _ hD => by have := (hpos _ _ hoj hej).2 hD; omega) (fun h => by omega), hs1]
            exact h1
          · rcases Nat.lt_or_ge r (hsz (hs (m - (d + 1)))) with h2 | h2
            · rw [← T.calmGet hoj (by simpa using hej) h2, hs1]
              exact h1
            · exact .inl (hget_none h2)
    have := cnt_upto (ops := ops) (hs := hs) (k := r) (b := b) (m - p) p (by rcases hm with rfl | rfl <;> omega) (fun j h1 h2 => by
      have := back (m - j) (by omega)
      rwa [show m - (m - j) = j by omega] at this) (by rw [Nat.add_sub_cancel' hpm]; exact hb)
    exact this

/-- Which temporaries hold what. -/
theorem Text.frEq {t i j : Nat} (hi : i ≤ ops.size) (hj : j ≤ ops.size) (h : ∀ k o, ops[k]? = some o → o.dst = some t → (k < i ↔ k < j)) : frs i t = frs j t := by
  have key : ∀ d i, i + d ≤ ops.size → (∀ k o, ops[k]? = some o → o.dst = some t → (k < i ↔ k < i + d)) → frs i t = frs (i + d) t := by
    intro d
    induction d with
    | zero => intros; rfl
    | succ d ih =>
      intro i hi h
      rw [ih i (by omega) (fun k o ho hd => ⟨fun hk => by omega, fun hk => (h k o ho hd).2 (by omega)⟩)]
      have ho := Array.getElem?_eq_getElem (xs := ops) (i := i + d) (by omega)
      have hd : (ops[i + d]'(by omega)).dst ≠ some t := fun hd => by
        have := (h _ _ ho hd).2 (by omega); omega
      have : ∀ v, fput (frs (i + d)) (ops[i + d]'(by omega)).dst v t = frs (i + d) t := by
        intro v
        cases hdd : (ops[i + d]'(by omega)).dst with
        | none => rfl
        | some t' =>
          simp only [fput, fset]
          rw [if_neg (fun e => hd (by rw [hdd, e]))]
      rcases T.stp _ _ ho with ⟨_, h1, _⟩ | ⟨_, v, h1, _⟩
      · rw [← Nat.add_assoc, h1, this]
      · rw [← Nat.add_assoc, h1, this]
  rcases Nat.le_total i j with hij | hij
  · have := key (j - i) i (by omega) (fun k o ho hd => by rw [Nat.add_sub_cancel' hij]; exact h k o ho hd)
    rwa [Nat.add_sub_cancel' hij] at this
  · have := key (i - j) j (by omega) (fun k o ho hd => by rw [Nat.add_sub_cancel' hij]; exact (h k o ho hd).symm)
    rw [Nat.add_sub_cancel' hij] at this
    exact this.symm

end
end Gl
end

/- Regions that draw their order: any order comes to what the text's order comes to. -/
section
namespace Gl
open Go

section
variable {C : Ctx} {nt : Nat} {ops : Array Oper} {frs : Nat → Fr} {hs : Nat → Heap} {ρ0 : Rho} {w0 : World}

/-- Nobody's own at the start. -/
def Alien (ρ0 : Rho) (w0 : World) (h0 : Heap) (r : Nat) : Prop := ∀ i g b, ρ0 i = some g → hget h0 i = some b → owned b = true → g.blk ≠ r

/-- A block that is new, or one that was owned at the start. -/
def Fresh (ρ0 : Rho) (w0 : World) (h0 : Heap) (r : Nat) : Prop := w0.heap.size ≤ r ∨ ∃ j gj b, ρ0 j = some gj ∧ hget h0 j = some b ∧ owned b = true ∧ gj.blk = r

structure Inv (C : Ctx) (nt : Nat) (ops : Array Oper) (frs : Nat → Fr) (hs : Nat → Heap) (ρ0 : Rho) (w0 : World) (ds : List Deferred) (D : Nat → Prop) (p : Nat) (τ : Nat → Nat) (ρ : Rho) (a : Act) (w : World) : Prop where
  pos : ∀ e o, ops[e]? = some o → isEff o.op = true → (e < p ↔ D e)
  ple : p ≤ ops.size
  rep : Rep C.G ρ w.heap (mem ops hs p)
  sub : Sub ρ0 ρ
  dom : ∀ k g, ρ k = some g → ρ0 k = some g ∨ ∃ j, D j ∧ j < ops.size ∧ hsz (hs j) ≤ k ∧ k < hsz (hs (j + 1))
  tot : ∀ j k, D j → j < ops.size → hsz (hs j) ≤ k → k < hsz (hs (j + 1)) → ∃ g, ρ k = some g
  new : ∀ k g, ρ k = some g → ρ0 k = none → Fresh ρ0 w0 (hs 0) g.blk
  size : w0.heap.size ≤ w.heap.size
  keep : ∀ r, r < w0.heap.size → Alien ρ0 w0 (hs 0) r → w.heap[r]? = w0.heap[r]?
  os : w.os = w0.os
  tape : w.tape = w0.tape
  output : w.output = w0.output
  tle : ∀ t, τ t ≤ ops.size
  twr : ∀ t j o, ops[j]? = some o → o.dst = some t → (j < τ t ↔ D j)
  fr : FrR ρ nt a.tmps (fun t => frs (τ t) t)
  defers : a.defers = ds

variable (T : Text C nt ops frs hs ρ0 w0) {ds : List Deferred} {D : Nat → Prop} {p : Nat} {τ : Nat → Nat} {ρ : Rho} {a : Act} {w : World} (R0 : Rep C.G ρ0 w0.heap (hs 0))
include T

theorem Inv.move (I : Inv C nt ops frs hs ρ0 w0 ds D p τ ρ a w) {e : Nat} (hpe : p ≤ e) (he : e ≤ ops.size) (hne : ∀ j o, p ≤ j → j < e → ops[j]? = some o → isEff o.op = false) : Inv C nt ops frs hs ρ0 w0 ds D e τ ρ a w :=
  { I with
    pos := fun j o ho hj => by
      rw [← I.pos j o ho hj]
      refine ⟨fun h => ?_, fun h => by omega⟩
      rcases Nat.lt_or_ge j p with h1 | h1
      · exact h1
      · rw [hne j o h1 h ho] at hj; cases hj
    ple := he
    rep := by rw [← T.shiftMem hpe he hne]; exact I.rep }

include R0

/-- What is known now was known in the text's order too. -/
theorem Inv.txtDom (I : Inv C nt ops frs hs ρ0 w0 ds D p τ ρ a w) {i k : Nat} {g : Gh} {ρt : Rho} {wt : World} (S : Step ρ0 w0 (hs 0) ρt wt (hs i)) (hk : ρ k = some g) (hlt : k < hsz (hs i)) : ∃ g', ρt k = some g' := by
  rcases I.dom k g hk with h | ⟨j, _, hj, h1, _⟩
  · exact ⟨g, S.sub k g h⟩
  · exact S.tot k (Nat.le_trans (T.sz (Nat.zero_le j) (by omega)) h1) hlt

theorem Inv.ltM (I : Inv C nt ops frs hs ρ0 w0 ds D p τ ρ a w) {k : Nat} {g : Gh} (hk : ρ k = some g) : k < hsz (hs ops.size) := by
  have := I.rep.rho_lt hk
  rwa [hsz_mem] at this

/-- Owned now: owned at the start, or new. -/
theorem Inv.owned (I : Inv C nt ops frs hs ρ0 w0 ds D p τ ρ a w) {k : Nat} {g : Gh} {b : Blk} (hk : ρ k = some g) (hb : hget (mem ops hs p) k = some b) (ho : Gl.owned b = true) : Fresh ρ0 w0 (hs 0) g.blk := by
  cases h0 : ρ0 k with
  | none => exact I.new k g hk h0
  | some g' =>
    have := I.sub k g' h0
    rw [hk] at this; cases this
    have hlt : k < hsz (hs 0) := R0.rho_lt h0
    obtain ⟨ρt, wt, _, _, S, _⟩ := T.txt p I.ple
    have hlp : k < hsz (hs p) := Nat.lt_of_lt_of_le hlt S.hsize
    obtain ⟨bp, hbp⟩ : ∃ bp, hget (hs p) k = some bp := ⟨_, List.getElem?_eq_getElem hlp⟩
    rw [mem_eq (I.ltM T R0 hk) (cnt_eq hbp)] at hb
    cases hb
    obtain ⟨b0, hb0, ho0⟩ := S.own k b hlt hbp ho
    exact .inr ⟨k, g, b0, h0, hb0, ho0, rfl⟩

theorem Inv.alien (I : Inv C nt ops frs hs ρ0 w0 ds D p τ ρ a w) {r : Nat} (hr : r < w0.heap.size) (ha : Alien ρ0 w0 (hs 0) r) {k : Nat} {g : Gh} {b : Blk} (hk : ρ k = some g) (hb : hget (mem ops hs p) k = some b) (ho : Gl.owned b = true) : g.blk ≠ r := by
  rcases I.owned T R0 hk hb ho with h | ⟨j, gj, bj, h1, h2, h3, h4⟩
  · omega
  · exact h4 ▸ ha j gj bj h1 h2 h3

/-- The frame, at an operation that may come now. -/
theorem Inv.frAt (I : Inv C nt ops frs hs ρ0 w0 ds D p τ ρ a w) (hcl : ∀ j o, ops[j]? = some o → D j → ∀ e ∈ o.after, Region.binds .any e = true → D e.on) {i : Nat} {o : Oper} (ho : ops[i]? = some o) (hi : ¬ D i)
    (hr : ∀ e ∈ o.after, Region.binds .any e = true → D e.on) {t : Nat} (ht : t ∈ namesOf o) : frs (τ t) t = frs i t := by
  have hil := lt_of ho
  refine T.frEq (I.tle t) (by omega) fun k ok hok hd => ?_
  rw [I.twr t k ok hok hd]
  by_cases hki : k = i
  · subst hki; exact ⟨fun h => absurd h hi, fun h => by omega⟩
  · have hord := T.dr.tmps k i ok o t hok ho hki hd ht
    simp only [ordered] at hord
    rcases Nat.lt_or_gt_of_ne hki with h1 | h1
    · rw [Nat.min_eq_left (by omega), Nat.max_eq_right (by omega)] at hord
      exact ⟨fun _ => h1, fun _ => pre_down hcl ho hr hord⟩
    · rw [Nat.min_eq_right (by omega), Nat.max_eq_left (by omega)] at hord
      exact ⟨fun h => absurd (pre_down hcl hok (hcl k ok hok h) hord) hi, fun h => by omega⟩

theorem feval_same {fr fr' : Fr} {x : Operand} (h : ∀ t, x = .tmp t → fr t = fr' t) : feval fr x = feval fr' x := by
  clear T R0
  cases x with
  | tmp t => exact h t rfl
  | const v => rfl
  | global g => rfl
  | func f => rfl

theorem Inv.opnd (I : Inv C nt ops frs hs ρ0 w0 ds D p τ ρ a w) (hcl : ∀ j o, ops[j]? = some o → D j → ∀ e ∈ o.after, Region.binds .any e = true → D e.on) {i : Nat} {o : Oper} (ho : ops[i]? = some o) (hi : ¬ D i)
    (hr : ∀ e ∈ o.after, Region.binds .any e = true → D e.on) : ∀ x ∈ o.op.operands, VR ρ (a.eval x) (feval (frs i) x) := by
  intro x hx
  have := feval_ok I.rep I.fr (okOper_ops (ops_all T.ok ho) x hx)
  rwa [feval_same (C := C) T R0 (fr' := frs i)] at this
  rintro t rfl
  refine I.frAt T R0 hcl ho hi hr ?_
  unfold namesOf
  simp only [List.mem_append, List.mem_filterMap]
  exact .inr ⟨_, by simpa using hx, rfl⟩

theorem Inv.wanted (I : Inv C nt ops frs hs ρ0 w0 ds D p τ ρ a w) {i : Nat} {o : Oper} (ho : ops[i]? = some o)
    (hr : ∀ e ∈ o.after, Region.binds .any e = true → D e.on) : Region.wanted o (yielded ops a.tmps) = wantedA ops o (frs i) := by
  rw [wanted_ok I.fr ops o]
  unfold wantedA
  cases hg : o.guard with
  | none => rfl
  | some kb =>
    obtain ⟨k, b⟩ := kb
    simp only
    obtain ⟨⟨e, he, hek, heb⟩, huniq⟩ := T.dr.guard i o k b ho hg
    cases hk : ops[k]? with
    | none => rfl
    | some ok =>
      simp only [Option.bind_some]
      cases hd : ok.dst with
      | none => rfl
      | some t =>
        simp only
        have : frs (τ t) t = frs i t := by
          refine T.frEq (I.tle t) (by have := lt_of ho; omega) fun z oz hoz hdz => ?_
          rw [I.twr t z oz hoz hdz]
          have hz := huniq z oz ok t hoz hk hdz hd
          subst hz
          have h1 := hr e he heb
          have h2 := T.dr.back i o ho e he heb
          rw [hek] at h1 h2
          exact ⟨fun _ => h2, fun _ => h1⟩
        rw [this]

/-- The frame behind an operation. -/
theorem frPut {i : Nat} {o : Oper} {v : Value} (hv : frs (i + 1) = fput (frs i) o.dst v) : (fun t => frs (if o.dst = some t then i + 1 else τ t) t) = fput (fun t => frs (τ t) t) o.dst v := by
  clear T R0
  funext t
  cases hd : o.dst with
  | none => simp [fput]
  | some t' =>
    by_cases ht : t' = t
    · subst ht
      simp only [if_true]
      rw [hv, hd]
      simp [fput, fset]
    · rw [if_neg (by simpa using ht)]
      simp only [fput, fset]
      rw [if_neg (Ne.symm ht)]

theorem twrPut (I : Inv C nt ops frs hs ρ0 w0 ds D p τ ρ a w) (hcl : ∀ j o, ops[j]? = some o → D j → ∀ e ∈ o.after, Region.binds .any e = true → D e.on) {i : Nat} {o : Oper} (ho : ops[i]? = some o) (hi : ¬ D i)
    (hr : ∀ e ∈ o.after, Region.binds .any e = true → D e.on) : ∀ t j oj, ops[j]? = some oj → oj.dst = some t → (j < (if o.dst = some t then i + 1 else τ t) ↔ (D j ∨ j = i)) := by
  intro t j oj hoj hdj
  split
  · rename_i hd
    by_cases hji : j = i
    · subst hji; simp
    · have hord := T.dr.tmps j i oj o t hoj ho hji hdj (by simp [namesOf, hd])
      simp only [ordered] at hord
      rcases Nat.lt_or_gt_of_ne hji with h1 | h1
      · rw [Nat.min_eq_left (by omega), Nat.max_eq_right (by omega)] at hord
        exact ⟨fun _ => .inl (pre_down hcl ho hr hord), fun _ => by omega⟩
      · rw [Nat.min_eq_right (by omega), Nat.max_eq_left (by omega)] at hord
        exact ⟨fun h => by omega, fun h => absurd (h.resolve_right hji) (fun h => hi (pre_down hcl hoj (hcl j oj hoj h) hord))⟩
  · rename_i hd
    rw [I.twr t j oj hoj hdj]
    refine ⟨.inl, fun h => h.resolve_right fun e => ?_⟩
    subst e
    rw [ho] at hoj; cases hoj
    exact hd hdj

/-- An effect that may come now: those before it are done, and none behind it. -/
theorem Inv.atEff (I : Inv C nt ops frs hs ρ0 w0 ds D p τ ρ a w) (hcl : ∀ j o, ops[j]? = some o → D j → ∀ e ∈ o.after, Region.binds .any e = true → D e.on) {i : Nat} {o : Oper} (ho : ops[i]? = some o) (hi : ¬ D i)
    (hr : ∀ e ∈ o.after, Region.binds .any e = true → D e.on) (he : isEff o.op = true) : p ≤ i ∧ (∀ j oj, p ≤ j → j < i → ops[j]? = some oj → isEff oj.op = false) ∧ ∀ e oe, ops[e]? = some oe → isEff oe.op = true → (e < i + 1 ↔ (D e ∨ e = i)) := by
  have hbefore : ∀ j oj, ops[j]? = some oj → isEff oj.op = true → j < i → D j := fun j oj hoj hej hlt => pre_down hcl ho hr (T.dr.effs j i oj o hoj ho hej he hlt)
  have hafter : ∀ j oj, ops[j]? = some oj → isEff oj.op = true → i < j → ¬ D j := fun j oj hoj hej hlt hD => hi (pre_down hcl hoj (hcl j oj hoj hD) (T.dr.effs i j o oj ho hoj he hej hlt))
  refine ⟨?_, fun j oj h1 h2 hoj => ?_, fun e oe hoe hee => ⟨fun h => ?_, fun h => ?_⟩⟩
  · rcases Nat.lt_or_ge i p with h | h
    · exact absurd ((I.pos i o ho he).1 h) hi
    · exact h
  · by_cases hej : isEff oj.op = true
    · have := (I.pos j oj hoj hej).2 (hbefore j oj hoj hej h2); omega
    · simpa using hej
  · rcases Nat.lt_or_ge e i with h1 | h1
    · exact .inl (hbefore e oe hoe hee h1)
    · exact .inr (by omega)
  · rcases h with h | rfl
    · rcases Nat.lt_or_ge i e with h1 | h1
      · exact absurd h (hafter e oe hoe hee h1)
      · omega
    · omega

/-- An operation that is not wanted. -/
theorem Inv.skip (I : Inv C nt ops frs hs ρ0 w0 ds D p τ ρ a w) (hcl : ∀ j o, ops[j]? = some o → D j → ∀ e ∈ o.after, Region.binds .any e = true → D e.on) {i : Nat} {o : Oper} (ho : ops[i]? = some o) (hi : ¬ D i)
    (hr : ∀ e ∈ o.after, Region.binds .any e = true → D e.on) (hw : wantedA ops o (frs i) = false) :
    ∃ p' τ', Inv C nt ops frs hs ρ0 w0 ds (fun j => D j ∨ j = i) p' τ' ρ (a.put o.dst undef) w := by
  have hil := lt_of ho
  obtain ⟨hf, hh⟩ : frs (i + 1) = fput (frs i) o.dst undef ∧ hs (i + 1) = hs i := by
    rcases T.stp i o ho with ⟨_, h1, h2⟩ | ⟨h, _⟩
    · exact ⟨h1, h2⟩
    · rw [hw] at h; cases h
  have base : ∀ {p' : Nat}, (∀ e o, ops[e]? = some o → isEff o.op = true → (e < p' ↔ (D e ∨ e = i))) → p' ≤ ops.size → Rep C.G ρ w.heap (mem ops hs p') → Inv C nt ops frs hs ρ0 w0 ds (fun j => D j ∨ j = i) p' (fun t => if o.dst = some t then i + 1 else τ t) ρ (a.put o.dst undef) w := by
    intro p' hpos hple hrep
    refine { I with pos := hpos, ple := hple, rep := hrep, dom := fun k g hk => ?_, tot := fun j k hj hjl h1 h2 => ?_, tle := fun t => ?_, twr := twrPut T R0 I hcl ho hi hr, fr := ?_, defers := ?_ }
    · rcases I.dom k g hk with h | ⟨j, h, h'⟩
      · exact .inl h
      · exact .inr ⟨j, .inl h, h'⟩
    · rcases hj with hj | rfl
      · exact I.tot j k hj hjl h1 h2
      · rw [hh] at h2; omega
    · split
      · omega
      · exact I.tle t
    · rw [frPut (C := C) T R0 hf]
      exact I.fr.put VR.undef (okOper_dst (ops_all T.ok ho))
    · rw [Act.put_defers']; exact I.defers
  by_cases he : isEff o.op = true
  · obtain ⟨hpi, hne, hpos⟩ := I.atEff T R0 hcl ho hi hr he
    have I1 := I.move T hpi (by omega) hne
    have hmem : mem ops hs i = mem ops hs (i + 1) := by
      unfold mem
      refine List.map_congr_left fun k _ => ?_
      cases hk : hget (hs i) k with
      | none => rw [cnt_next hil hk]
      | some b => rw [cnt_eq hk, cnt_eq (p := i + 1) (b := b) (by rw [hh]; exact hk)]
    exact ⟨i + 1, _, base hpos (by omega) (hmem ▸ I1.rep)⟩
  · refine ⟨p, _, base (fun e oe hoe hee => ?_) I.ple I.rep⟩
    rw [I.pos e oe hoe hee]
    refine ⟨.inl, fun h => h.resolve_right fun h => ?_⟩
    subst h
    rw [ho] at hoe; cases hoe
    exact he hee

/-- An effect. -/
theorem Inv.effect (I : Inv C nt ops frs hs ρ0 w0 ds D p τ ρ a w) (hcl : ∀ j o, ops[j]? = some o → D j → ∀ e ∈ o.after, Region.binds .any e = true → D e.on) {i : Nat} {o : Oper} {v : Value} (ho : ops[i]? = some o) (hi : ¬ D i)
    (hr : ∀ e ∈ o.after, Region.binds .any e = true → D e.on) (he : isEff o.op = true) (hf : frs (i + 1) = fput (frs i) o.dst v) (hop : OpSem C o (frs i) (hs i) v (hs (i + 1)))
    {F : Fence} (hF : FOK F) (K : Act → World → Prop) (Q : Exit → Act → World → Prop)
    (hK : ∀ p' τ' ρ' a' w', Inv C nt ops frs hs ρ0 w0 ds (fun j => D j ∨ j = i) p' τ' ρ' a' w' → K a' w') : o.wpIn F 0 C.P a w K Q := by
  have hil := lt_of ho
  obtain ⟨hpi, hne, hpos⟩ := I.atEff T R0 hcl ho hi hr he
  have I := I.move T hpi (by omega) hne
  obtain ⟨ρt, wt, at', Rt, St, Ft⟩ := T.txt i (by omega)
  obtain ⟨ρe, hρe⟩ : ∃ ρe : Rho, ρe = fun k => if k < hsz (hs i) then ρ k else none := ⟨_, rfl⟩
  have re1 : ∀ k g, ρe k = some g → k < hsz (hs i) ∧ ρ k = some g := by
    intro k g hk
    rw [hρe] at hk
    simp only at hk
    split at hk
    · exact ⟨by assumption, hk⟩
    · cases hk
  have re2 : ∀ k g, k < hsz (hs i) → ρ k = some g → ρe k = some g := by
    intro k g h1 h2
    rw [hρe]; simp only; rw [if_pos h1]; exact h2
  have m : Meet ρt ρ ρe := fun k g1 g2 h1 h2 => re2 k g2 (Rt.rho_lt h1) h2
  have cont : ∀ k g, ρ k = some g → k < hsz (hs i) → hget (mem ops hs i) k = hget (hs i) k := by
    intro k g hk hlt
    obtain ⟨b, hb⟩ : ∃ b, hget (hs i) k = some b := ⟨_, List.getElem?_eq_getElem hlt⟩
    rw [hb]
    exact mem_eq (I.ltM T R0 hk) (cnt_eq hb)
  have Re : Rep C.G ρe w.heap (hs i) := by
    refine ⟨fun k g hk => ?_, fun i1 i2 g1 g2 b1 b2 h1 h2 h3 h4 => ?_, fun k hk => ?_, fun k g hk => I.rep.lt k g (re1 k g hk).2⟩
    · obtain ⟨hlt, hk'⟩ := re1 k g hk
      obtain ⟨b, hb, hR⟩ := I.rep.blk k g hk'
      rw [cont k g hk' hlt] at hb
      obtain ⟨gt, hgt⟩ := I.txtDom T R0 St hk' hlt
      obtain ⟨bt, hbt, hRt⟩ := Rt.blk k gt hgt
      rw [hb] at hbt; cases hbt
      exact ⟨b, hb, hRt.meet m hR⟩
    · obtain ⟨l1, k1⟩ := re1 i1 g1 h1
      obtain ⟨l2, k2⟩ := re1 i2 g2 h2
      rw [← cont i1 g1 k1 l1] at h3
      rw [← cont i2 g2 k2 l2] at h4
      exact I.rep.inj i1 i2 g1 g2 b1 b2 k1 k2 h3 h4
    · obtain ⟨g0, h0, h1, h2⟩ := R0.glob k hk
      exact ⟨g0, re2 k g0 (Nat.lt_of_lt_of_le (R0.rho_lt h0) (T.sz (Nat.zero_le i) (by omega))) (I.sub k g0 h0), h1, h2⟩
  have hops : ∀ x ∈ o.op.operands, VR ρe (a.eval x) (feval (frs i) x) := fun x hx =>
    VR.meet m (I.opnd T R0 hcl ho hi hr x hx) (feval_ok Rt Ft (okOper_ops (ops_all T.ok ho) x hx))
  refine hop F hF ρe w a Re hops K Q ?_
  intro ρ' w' vc R' S' hv
  obtain ⟨ρ2, hρ2⟩ : ∃ ρ2 : Rho, ρ2 = fun k => if k < hsz (hs (i + 1)) then ρ' k else ρ k := ⟨_, rfl⟩
  have hle : hsz (hs i) ≤ hsz (hs (i + 1)) := T.one i o ho
  have hleM : hsz (hs (i + 1)) ≤ hsz (hs ops.size) := T.sz (by omega) (Nat.le_refl _)
  -- nothing was known of what is made now
  have gap : ∀ k g, ρ k = some g → hsz (hs i) ≤ k → hsz (hs (i + 1)) ≤ k := by
    intro k g hk h1
    rcases I.dom k g hk with h | ⟨j, hD, hj, h2, h3⟩
    · have := R0.rho_lt h
      have := T.sz (Nat.zero_le i) (by omega)
      omega
    · rcases Nat.lt_or_ge k (hsz (hs (i + 1))) with h4 | h4
      · exfalso
        rcases Nat.lt_trichotomy j i with h5 | h5 | h5
        · have := T.sz (i := j + 1) (j := i) h5 (by omega); omega
        · subst h5; exact hi hD
        · have := T.sz (i := i + 1) (j := j) h5 (by omega); omega
      · exact h4
  have r2lt : ∀ k g, ρ' k = some g → ρ2 k = some g := fun k g hk => by
    rw [hρ2]; simp only; rw [if_pos (R'.rho_lt hk)]; exact hk
  have r2old : ∀ k g, ρ k = some g → ρ2 k = some g := fun k g hk => by
    rcases Nat.lt_or_ge k (hsz (hs i)) with h | h
    · exact r2lt k g (S'.sub k g (re2 k g h hk))
    · rw [hρ2]; simp only; rw [if_neg (by have := gap k g hk h; omega)]; exact hk
  have r2inv : ∀ k g, ρ2 k = some g → (k < hsz (hs (i + 1)) ∧ ρ' k = some g) ∨ (hsz (hs (i + 1)) ≤ k ∧ ρ k = some g) := fun k g hk => by
    rw [hρ2] at hk; simp only at hk
    split at hk
    · exact .inl ⟨by assumption, hk⟩
    · exact .inr ⟨by omega, hk⟩
  have mlow : ∀ k, k < hsz (hs (i + 1)) → hget (mem ops hs (i + 1)) k = hget (hs (i + 1)) k := by
    intro k hlt
    obtain ⟨b, hb⟩ : ∃ b, hget (hs (i + 1)) k = some b := ⟨_, List.getElem?_eq_getElem hlt⟩
    rw [hb]
    exact mem_eq (by omega) (cnt_eq hb)
  have mhigh : ∀ k, hsz (hs (i + 1)) ≤ k → hget (mem ops hs (i + 1)) k = hget (mem ops hs i) k := by
    intro k hge
    rcases Nat.lt_or_ge k (hsz (hs ops.size)) with h | h
    · rw [hget_mem h, hget_mem h, cnt_next (p := i) hil (hget_none (by omega))]
    · rw [hget_none (by rw [hsz_mem]; exact h), hget_none (by rw [hsz_mem]; exact h)]
  -- the same block of the machine's
  have alias : ∀ k g, ρ' k = some g → ρe k = none → ∀ k2 g2 b2, ρ k2 = some g2 → hsz (hs (i + 1)) ≤ k2 → hget (mem ops hs i) k2 = some b2 → isDead b2 = false → g.blk ≠ g2.blk := by
    intro k g hk hke k2 g2 b2 hk2 hge hb2 hd heq
    rcases (S'.new k g hk hke).2 with h | ⟨j0, gj0, bj0, h1, h2, h3, h4⟩
    · have := I.rep.lt k2 g2 hk2; omega
    · obtain ⟨l0, k0⟩ := re1 j0 gj0 h1
      have := I.rep.inj j0 k2 gj0 g2 bj0 b2 k0 hk2 (by rw [cont j0 gj0 k0 l0]; exact h2) hb2 h3 hd (h4.trans heq)
      omega
  have ownd : ∀ b, Gl.owned b = true → isDead b = false := fun b hb => by cases b <;> simp [Gl.owned, isDead] at hb ⊢
  have Rn : Rep C.G ρ2 w'.heap (mem ops hs (i + 1)) := by
    refine ⟨fun k g hk => ?_, fun i1 i2 g1 g2 b1 b2 h1 h2 h3 h4 ho1 hd2 hgg => ?_, fun k hk => ?_, fun k g hk => ?_⟩
    · rcases r2inv k g hk with ⟨hlt, hk'⟩ | ⟨hge, hk'⟩
      · obtain ⟨b, hb, hR⟩ := R'.blk k g hk'
        exact ⟨b, (mlow k hlt).trans hb, hR.mono r2lt rfl⟩
      · obtain ⟨b, hb, hR⟩ := I.rep.blk k g hk'
        refine ⟨b, (mhigh k hge).trans hb, ?_⟩
        by_cases hd : isDead b = true
        · cases b <;> simp [isDead] at hd
          trivial
        · refine hR.mono r2old (S'.keep g.blk (I.rep.lt k g hk') fun j gj bj h1 h2 h3 h4 => ?_)
          obtain ⟨l0, k0⟩ := re1 j gj h1
          have := I.rep.inj j k gj g bj b k0 hk' (by rw [cont j gj k0 l0]; exact h2) hb h3 (by simpa using hd) h4
          omega
    · rcases r2inv i1 g1 h1 with ⟨hl1, k1⟩ | ⟨hl1, k1⟩ <;> rcases r2inv i2 g2 h2 with ⟨hl2, k2⟩ | ⟨hl2, k2⟩
      · rw [mlow i1 hl1] at h3
        rw [mlow i2 hl2] at h4
        exact R'.inj i1 i2 g1 g2 b1 b2 k1 k2 h3 h4 ho1 hd2 hgg
      · rw [mlow i1 hl1] at h3
        rw [mhigh i2 hl2] at h4
        exfalso
        cases hre : ρe i1 with
        | none => exact alias i1 g1 k1 hre i2 g2 b2 k2 hl2 h4 hd2 hgg
        | some g' =>
          have := S'.sub i1 g' hre
          rw [k1] at this; cases this
          obtain ⟨l0, k0⟩ := re1 i1 g1 hre
          obtain ⟨b0, hb0, ho0⟩ := S'.own i1 b1 l0 h3 ho1
          have := I.rep.inj i1 i2 g1 g2 b0 b2 k0 k2 (by rw [cont i1 g1 k0 l0]; exact hb0) h4 ho0 hd2 hgg
          omega
      · rw [mhigh i1 hl1] at h3
        rw [mlow i2 hl2] at h4
        exfalso
        cases hre : ρe i2 with
        | none => exact alias i2 g2 k2 hre i1 g1 b1 k1 hl1 h3 (ownd b1 ho1) hgg.symm
        | some g' =>
          have := S'.sub i2 g' hre
          rw [k2] at this; cases this
          obtain ⟨l0, k0⟩ := re1 i2 g2 hre
          obtain ⟨b0, hb0, hd0⟩ := S'.dead i2 b2 l0 h4 hd2
          have := I.rep.inj i1 i2 g1 g2 b1 b0 k1 k0 h3 (by rw [cont i2 g2 k0 l0]; exact hb0) ho1 hd0 hgg
          omega
      · rw [mhigh i1 hl1] at h3
        rw [mhigh i2 hl2] at h4
        exact I.rep.inj i1 i2 g1 g2 b1 b2 k1 k2 h3 h4 ho1 hd2 hgg
    · obtain ⟨g, h1, h2⟩ := I.rep.glob k hk
      exact ⟨g, r2old k g h1, h2⟩
    · rcases r2inv k g hk with ⟨_, hk'⟩ | ⟨_, hk'⟩
      · exact R'.lt k g hk'
      · exact Nat.lt_of_lt_of_le (I.rep.lt k g hk') S'.size
  refine hK (i + 1) (fun t => if o.dst = some t then i + 1 else τ t) ρ2 (a.put o.dst vc) w' ?_
  exact {
    pos := hpos
    ple := hil
    rep := Rn
    sub := fun k g hk => r2old k g (I.sub k g hk)
    dom := fun k g hk => by
      have old : ρ k = some g → ρ0 k = some g ∨ ∃ j, (D j ∨ j = i) ∧ j < ops.size ∧ hsz (hs j) ≤ k ∧ k < hsz (hs (j + 1)) := fun h => by
        rcases I.dom k g h with h | ⟨j, h, h'⟩
        · exact .inl h
        · exact .inr ⟨j, .inl h, h'⟩
      rcases r2inv k g hk with ⟨hlt, hk'⟩ | ⟨_, hk'⟩
      · cases hre : ρe k with
        | none => exact .inr ⟨i, .inr rfl, hil, (S'.new k g hk' hre).1, hlt⟩
        | some g' =>
          have := S'.sub k g' hre
          rw [hk'] at this; cases this
          exact old (re1 k g hre).2
      · exact old hk'
    tot := fun j k hj hjl h1 h2 => by
      rcases hj with hj | rfl
      · obtain ⟨g, hg⟩ := I.tot j k hj hjl h1 h2
        exact ⟨g, r2old k g hg⟩
      · obtain ⟨g, hg⟩ := S'.tot k h1 h2
        exact ⟨g, r2lt k g hg⟩
    new := fun k g hk h0 => by
      rcases r2inv k g hk with ⟨hlt, hk'⟩ | ⟨_, hk'⟩
      · cases hre : ρe k with
        | none =>
          rcases (S'.new k g hk' hre).2 with h | ⟨j0, gj0, bj0, h1, h2, h3, h4⟩
          · exact .inl (Nat.le_trans I.size h)
          · obtain ⟨l0, k0⟩ := re1 j0 gj0 h1
            rw [← h4]
            exact I.owned T R0 k0 (by rw [cont j0 gj0 k0 l0]; exact h2) h3
        | some g' =>
          have := S'.sub k g' hre
          rw [hk'] at this; cases this
          exact I.new k g (re1 k g hre).2 h0
      · exact I.new k g hk' h0
    size := Nat.le_trans I.size S'.size
    keep := fun r hr ha => by
      rw [← I.keep r hr ha]
      refine S'.keep r (Nat.lt_of_lt_of_le hr I.size) fun j gj bj h1 h2 h3 => ?_
      obtain ⟨l0, k0⟩ := re1 j gj h1
      exact I.alien T R0 hr ha k0 (by rw [cont j gj k0 l0]; exact h2) h3
    os := S'.os.trans I.os
    tape := S'.tape.trans I.tape
    output := S'.output.trans I.output
    tle := fun t => by
      split
      · omega
      · exact I.tle t
    twr := twrPut T R0 I hcl ho hi hr
    fr := by
      rw [frPut (C := C) T R0 hf]
      exact (I.fr.mono r2old).put (hv.mono r2lt) (okOper_dst (ops_all T.ok ho))
    defers := by rw [Act.put_defers']; exact I.defers }

end
end Gl
end

/- Regions that draw their order: operations without effect, and the end. -/
section
namespace Gl
open Go

section
variable {C : Ctx} {nt : Nat} {ops : Array Oper} {frs : Nat → Fr} {hs : Nat → Heap} {ρ0 : Rho} {w0 : World}
variable (T : Text C nt ops frs hs ρ0 w0) {ds : List Deferred} {D : Nat → Prop} {p : Nat} {τ : Nat → Nat} {ρ : Rho} {a : Act} {w : World} (R0 : Rep C.G ρ0 w0.heap (hs 0))
include T R0

theorem Inv.calm (I : Inv C nt ops frs hs ρ0 w0 ds D p τ ρ a w) (hcl : ∀ j o, ops[j]? = some o → D j → ∀ e ∈ o.after, Region.binds .any e = true → D e.on) {i : Nat} {o : Oper} {v : Value} (ho : ops[i]? = some o) (hi : ¬ D i)
    (hr : ∀ e ∈ o.after, Region.binds .any e = true → D e.on) (he : isEff o.op = false) (hw : wantedA ops o (frs i) = true) (hf : frs (i + 1) = fput (frs i) o.dst v) (ha : aop C.P o.op o.type (frs i) (hs i) = some (v, hs (i + 1)))
    {F : Fence} (hF : FOK F) (K : Act → World → Prop) (Q : Exit → Act → World → Prop)
    (hK : ∀ p' τ' ρ' a' w', Inv C nt ops frs hs ρ0 w0 ds (fun j => D j ∨ j = i) p' τ' ρ' a' w' → K a' w') : o.wpIn F 0 C.P a w K Q := by
  have hil := lt_of ho
  have hle : hsz (hs i) ≤ hsz (hs (i + 1)) := T.one i o ho
  have hleM : hsz (hs (i + 1)) ≤ hsz (hs ops.size) := T.sz (by omega) (Nat.le_refl _)
  -- the memory, with the text's at what is not known
  obtain ⟨H, hH⟩ : ∃ H : Heap, H = (List.range (hsz (hs ops.size))).map fun k => if (ρ k).isSome then (cntAt ops hs p k).getD .dead else (hget (hs i) k).getD .dead := ⟨_, rfl⟩
  have hszH : hsz H = hsz (hs ops.size) := by rw [hH]; simp [hsz]
  have hgetH : ∀ k, k < hsz (hs ops.size) → hget H k = some (if (ρ k).isSome then (cntAt ops hs p k).getD .dead else (hget (hs i) k).getD .dead) := fun k hk => by
    rw [hH]; unfold hget; simp [hk]
  have hknown : ∀ k g, ρ k = some g → hget H k = hget (mem ops hs p) k := fun k g hk => by
    have hlt := I.ltM T R0 hk
    rw [hgetH k hlt, hget_mem hlt, hk]; rfl
  have RH : Rep C.G ρ w.heap H := I.rep.congr hknown
  have hloc : Loc (hs i) H (readsOf (frs i) o.op) := by
    intro r hrd b hb
    have hrM : r < hsz (hs ops.size) := Nat.lt_of_lt_of_le (hget_lt hb) (T.sz (by omega) (Nat.le_refl _))
    rw [hgetH r hrM]
    cases hρ : ρ r with
    | none => simp [hb]
    | some g =>
      have := T.stable hcl I.pos I.ple ho he hw hi hr (m := i) (.inl rfl) (fun j _ h => by omega) (.inl hrd) hb
      simp [this]
  have hopnd := I.opnd T R0 hcl ho hi hr
  have hpos : ∀ e oe, ops[e]? = some oe → isEff oe.op = true → (e < p ↔ (D e ∨ e = i)) := fun e oe hoe hee => by
    rw [I.pos e oe hoe hee]
    refine ⟨.inl, fun h => h.resolve_right fun h => ?_⟩
    subst h
    rw [ho] at hoe; cases hoe
    rw [he] at hee; cases hee
  rcases aop_local ha he hloc with ⟨hsame, haH⟩ | ⟨mk, b, hv, hpush', haH, hren⟩
  · -- no new block
    refine OpSem.of_aop haH F hF ρ w a RH hopnd K Q ?_
    intro ρ' w' vc R' S' hvr
    have hρ' : ρ' = ρ := by
      funext k
      cases hk' : ρ' k with
      | none =>
        cases hk : ρ k with
        | none => rfl
        | some g => have := S'.sub k g hk; rw [hk'] at this; cases this
      | some g =>
        cases hk : ρ k with
        | none =>
          have h1 := (S'.new k g hk' hk).1
          have h2 := R'.rho_lt hk'
          omega
        | some g' => have := S'.sub k g' hk; rw [hk'] at this; exact this
    subst hρ'
    refine hK p (fun t => if o.dst = some t then i + 1 else τ t) ρ' (a.put o.dst vc) w' { I with
      pos := hpos
      rep := R'.congr fun k g hk => (hknown k g hk).symm
      dom := fun k g hk => ?_
      tot := fun j k hj hjl h1 h2 => ?_
      size := Nat.le_trans I.size S'.size
      keep := fun r hr ha => ?_
      os := S'.os.trans I.os
      tape := S'.tape.trans I.tape
      output := S'.output.trans I.output
      tle := fun t => ?_
      twr := twrPut T R0 I hcl ho hi hr
      fr := ?_
      defers := ?_ }
    · rcases I.dom k g hk with h | ⟨j, h, h'⟩
      · exact .inl h
      · exact .inr ⟨j, .inl h, h'⟩
    · rcases hj with hj | rfl
      · exact I.tot j k hj hjl h1 h2
      · rw [hsame] at h2; omega
    · rw [← I.keep r hr ha]
      exact S'.keep r (Nat.lt_of_lt_of_le hr I.size) fun j gj bj h1 h2 h3 => I.alien T R0 hr ha h1 (by rw [← hknown j gj h1]; exact h2) h3
    · split
      · omega
      · exact I.tle t
    · rw [frPut (C := C) T R0 hf]
      exact I.fr.put hvr (okOper_dst (ops_all T.ok ho))
    · rw [Act.put_defers']; exact I.defers
  · -- a new block
    have hk0 : hsz (hs (i + 1)) = hsz (hs i) + 1 := by rw [hpush', hsz_push]
    refine OpSem.of_aop haH F hF ρ w a RH hopnd K Q ?_
    intro ρ' w' vc R' S' hvr
    obtain ⟨gM, hgM⟩ := S'.tot (hsz H) (Nat.le_refl _) (by rw [hsz_push]; omega)
    have hnoneM : ρ (hsz H) = none := RH.rho_none (Nat.le_refl _)
    have hnone0 : ρ (hsz (hs i)) = none := by
      cases hk : ρ (hsz (hs i)) with
      | none => rfl
      | some g =>
        exfalso
        rcases I.dom _ g hk with h | ⟨j, hD, hj, h2, h3⟩
        · have := R0.rho_lt h
          have := T.sz (Nat.zero_le i) (by omega)
          omega
        · rcases Nat.lt_trichotomy j i with h5 | h5 | h5
          · have := T.sz (i := j + 1) (j := i) h5 (by omega); omega
          · subst h5; exact hi hD
          · have := T.sz (i := i + 1) (j := j) h5 (by omega); omega
    have hnew : ∀ k g, ρ' k = some g → k ≠ hsz H → ρ k = some g := fun k g hk hne => by
      cases hkk : ρ k with
      | none =>
        have h1 := (S'.new k g hk hkk).1
        have h2 := R'.rho_lt hk
        rw [hsz_push] at h2
        omega
      | some g' => have := S'.sub k g' hkk; rw [hk] at this; exact this.symm
    obtain ⟨ρ2, hρ2⟩ : ∃ ρ2 : Rho, ρ2 = fun k => if k = hsz (hs i) then some gM else ρ k := ⟨_, rfl⟩
    have r20 : ρ2 (hsz (hs i)) = some gM := by rw [hρ2]; simp
    have r2old : ∀ k g, ρ k = some g → ρ2 k = some g := fun k g hk => by
      rw [hρ2]; simp only
      rw [if_neg (fun e => by subst e; rw [hnone0] at hk; cases hk)]; exact hk
    have r2inv : ∀ k g, ρ2 k = some g → (k = hsz (hs i) ∧ g = gM) ∨ (k ≠ hsz (hs i) ∧ ρ k = some g) := fun k g hk => by
      rw [hρ2] at hk; simp only at hk
      split at hk
      · exact .inl ⟨by assumption, by cases hk; rfl⟩
      · exact .inr ⟨by assumption, hk⟩
    have hb0 : hget (hs (i + 1)) (hsz (hs i)) = some b := by rw [hpush', hget_push, if_pos rfl]
    have hc0 : cntAt ops hs p (hsz (hs i)) = some b :=
      T.stable hcl I.pos I.ple ho he hw hi hr (m := i + 1) (.inr rfl) (fun j h1 _ => hget_none (T.sz (i := j) (j := i) (by omega) (by omega))) (.inr ⟨rfl, by omega⟩) hb0
    have hm0 : hget (mem ops hs p) (hsz (hs i)) = some b := mem_eq (by omega) hc0
    have hpushM : hget (hpush H b) (hsz H) = some b := by rw [hget_push, if_pos rfl]
    have hpushk : ∀ k g, ρ k = some g → hget (hpush H b) k = hget (mem ops hs p) k := fun k g hk => by
      have := I.ltM T R0 hk
      rw [hget_push, if_neg (by omega), hknown k g hk]
    obtain ⟨ρt, wt, at', Rt, St, Ft⟩ := T.txt (i + 1) (by omega)
    obtain ⟨gt, hgt⟩ := St.tot (hsz (hs i)) (T.sz (Nat.zero_le i) (by omega)) (by omega)
    have m1 : Meet ρt ρ' ρ2 := fun k g1 g2 h1 h2 => by
      have hlt := Rt.rho_lt h1
      exact r2old k g2 (hnew k g2 h2 (by omega))
    have m2 : Meet ρ ρ' ρ2 := fun k g1 g2 h1 h2 => by
      have := S'.sub k g1 h1
      rw [h2] at this; cases this
      exact r2old k _ h1
    have Rn : Rep C.G ρ2 w'.heap (mem ops hs p) := by
      refine ⟨fun k g hk => ?_, fun i1 i2 g1 g2 b1 b2 h1 h2 h3 h4 ho1 hd2 hgg => ?_, fun k hk => ?_, fun k g hk => ?_⟩
      · rcases r2inv k g hk with ⟨rfl, rfl⟩ | ⟨hne, hk'⟩
        · obtain ⟨b', hb', hR⟩ := R'.blk _ g hgM
          rw [hpushM] at hb'; cases hb'
          obtain ⟨bt, hbt, hRt⟩ := Rt.blk _ gt hgt
          rw [hb0] at hbt; cases hbt
          exact ⟨b, hm0, hRt.meet m1 hR⟩
        · obtain ⟨b1, hb1, hR1⟩ := I.rep.blk k g hk'
          obtain ⟨b2, hb2, hR2⟩ := R'.blk k g (S'.sub k g hk')
          rw [hpushk k g hk', hb1] at hb2; cases hb2
          exact ⟨b1, hb1, hR1.meet m2 hR2⟩
      · rcases r2inv i1 g1 h1 with ⟨rfl, rfl⟩ | ⟨n1, k1⟩ <;> rcases r2inv i2 g2 h2 with ⟨rfl, rfl⟩ | ⟨n2, k2⟩
        · rfl
        · rw [hm0] at h3; cases h3
          have := R'.inj _ i2 _ g2 b b2 hgM (S'.sub i2 g2 k2) hpushM (by rw [hpushk i2 g2 k2]; exact h4) ho1 hd2 hgg
          rw [← this, hnoneM] at k2; cases k2
        · rw [hm0] at h4; cases h4
          have := R'.inj i1 _ g1 _ b1 b (S'.sub i1 g1 k1) hgM (by rw [hpushk i1 g1 k1]; exact h3) hpushM ho1 hd2 hgg
          rw [this, hnoneM] at k1; cases k1
        · exact I.rep.inj i1 i2 g1 g2 b1 b2 k1 k2 h3 h4 |> fun f => by
            exact R'.inj i1 i2 g1 g2 b1 b2 (S'.sub i1 g1 k1) (S'.sub i2 g2 k2) (by rw [hpushk i1 g1 k1]; exact h3) (by rw [hpushk i2 g2 k2]; exact h4) ho1 hd2 hgg
      · obtain ⟨g, h1, h2⟩ := I.rep.glob k hk
        exact ⟨g, r2old k g h1, h2⟩
      · rcases r2inv k g hk with ⟨rfl, rfl⟩ | ⟨_, hk'⟩
        · exact R'.lt _ g hgM
        · exact R'.lt k g (S'.sub k g hk')
    have hv2 : VR ρ2 vc v := by
      rw [hv]
      exact hren ρ' ρ2 _ _ vc (hgM.trans r20.symm) hvr
    refine hK p (fun t => if o.dst = some t then i + 1 else τ t) ρ2 (a.put o.dst vc) w' {
      pos := hpos
      ple := I.ple
      rep := Rn
      sub := fun k g hk => r2old k g (I.sub k g hk)
      dom := fun k g hk => ?_
      tot := fun j k hj hjl h1 h2 => ?_
      new := fun k g hk h0 => ?_
      size := Nat.le_trans I.size S'.size
      keep := fun r hr ha => ?_
      os := S'.os.trans I.os
      tape := S'.tape.trans I.tape
      output := S'.output.trans I.output
      tle := fun t => ?_
      twr := twrPut T R0 I hcl ho hi hr
      fr := ?_
      defers := ?_ }
    · rcases r2inv k g hk with ⟨rfl, rfl⟩ | ⟨_, hk'⟩
      · exact .inr ⟨i, .inr rfl, hil, Nat.le_refl _, by omega⟩
      · rcases I.dom k g hk' with h | ⟨j, h, h'⟩
        · exact .inl h
        · exact .inr ⟨j, .inl h, h'⟩
    · rcases hj with hj | rfl
      · obtain ⟨g, hg⟩ := I.tot j k hj hjl h1 h2
        exact ⟨g, r2old k g hg⟩
      · have : k = hsz (hs j) := by omega
        subst this
        exact ⟨gM, r20⟩
    · rcases r2inv k g hk with ⟨rfl, rfl⟩ | ⟨_, hk'⟩
      · rcases (S'.new _ g hgM hnoneM).2 with h | ⟨j0, gj0, bj0, h1, h2, h3, h4⟩
        · exact .inl (Nat.le_trans I.size h)
        · rw [← h4]
          exact I.owned T R0 h1 (by rw [← hknown j0 gj0 h1]; exact h2) h3
      · exact I.new k g hk' h0
    · rw [← I.keep r hr ha]
      exact S'.keep r (Nat.lt_of_lt_of_le hr I.size) fun j gj bj h1 h2 h3 => I.alien T R0 hr ha h1 (by rw [← hknown j gj h1]; exact h2) h3
    · split
      · omega
      · exact I.tle t
    · rw [frPut (C := C) T R0 hf]
      exact (I.fr.mono r2old).put hv2 (okOper_dst (ops_all T.ok ho))
    · rw [Act.put_defers']; exact I.defers

/-- One operation, taken now. -/
theorem Inv.take (I : Inv C nt ops frs hs ρ0 w0 ds D p τ ρ a w) (hcl : ∀ j o, ops[j]? = some o → D j → ∀ e ∈ o.after, Region.binds .any e = true → D e.on) {i : Nat} {o : Oper} (ho : ops[i]? = some o) (hi : ¬ D i)
    (hr : ∀ e ∈ o.after, Region.binds .any e = true → D e.on) {F : Fence} (hF : FOK F) (K : Act → World → Prop) (Q : Exit → Act → World → Prop)
    (hK : ∀ p' τ' ρ' a' w', Inv C nt ops frs hs ρ0 w0 ds (fun j => D j ∨ j = i) p' τ' ρ' a' w' → K a' w') : wpOpIn F 0 C.P ops Q i K a w := by
  unfold wpOpIn
  simp only [ho, I.wanted T R0 ho hr]
  rcases T.stp i o ho with ⟨hw, hf, hh⟩ | ⟨hw, v, hf, hop, ha⟩
  · rw [if_neg (by simp [hw])]
    obtain ⟨p', τ', I'⟩ := I.skip T R0 hcl ho hi hr hw
    exact ⟨fun f _ => hF.fn f, hK _ _ _ _ _ I'⟩
  · rw [if_pos hw]
    by_cases he : isEff o.op = true
    · exact I.effect T R0 hcl ho hi hr he hf hop hF K Q hK
    · exact I.calm T R0 hcl ho hi hr (by simpa using he) hw hf (ha (by simpa using he)) hF K Q hK

/-- All done. -/
theorem Inv.last (I : Inv C nt ops frs hs ρ0 w0 ds D p τ ρ a w) (hall : ∀ j, j < ops.size → D j) : Rep C.G ρ w.heap (hs ops.size) ∧ Step ρ0 w0 (hs 0) ρ w (hs ops.size) ∧ FrR ρ nt a.tmps (frs ops.size) := by
  have I := I.move T I.ple (Nat.le_refl _) (fun j o h1 h2 ho => by
    by_cases he : isEff o.op = true
    · have := (I.pos j o ho he).2 (hall j h2); omega
    · simpa using he)
  have hcont : ∀ k g, ρ k = some g → hget (hs ops.size) k = hget (mem ops hs ops.size) k := fun k g hk => by
    have hlt := I.ltM T R0 hk
    obtain ⟨b, hb⟩ : ∃ b, hget (hs ops.size) k = some b := ⟨_, List.getElem?_eq_getElem hlt⟩
    rw [hb]
    exact (mem_eq hlt (cnt_eq hb)).symm
  obtain ⟨ρt, wt, at', Rt, St, Ft⟩ := T.txt ops.size (Nat.le_refl _)
  refine ⟨I.rep.congr hcont, ⟨I.sub, fun k g hk h0 => ⟨?_, I.new k g hk h0⟩, I.size, fun r hr hk => I.keep r hr hk, St.own, St.dead, St.hsize, fun k h1 h2 => ?_, I.os, I.tape, I.output⟩, ?_⟩
  · rcases I.dom k g hk with h | ⟨j, _, hj, h1, _⟩
    · rw [h0] at h; cases h
    · exact Nat.le_trans (T.sz (Nat.zero_le j) (by omega)) h1
  · have : ∀ n, n ≤ ops.size → k < hsz (hs n) → ∃ j, j < n ∧ hsz (hs j) ≤ k ∧ k < hsz (hs (j + 1)) := by
      intro n
      induction n with
      | zero => intro _ h; omega
      | succ n ih =>
        intro hn h
        rcases Nat.lt_or_ge k (hsz (hs n)) with h3 | h3
        · obtain ⟨j, h4, h5⟩ := ih (by omega) h3
          exact ⟨j, by omega, h5⟩
        · exact ⟨n, by omega, h3, h⟩
    obtain ⟨j, h3, h4, h5⟩ := this ops.size (Nat.le_refl _) h2
    exact I.tot j k (hall j h3) h3 h4 h5
  · have : (fun t => frs (τ t) t) = frs ops.size := by
      funext t
      refine T.frEq (I.tle t) (Nat.le_refl _) fun k o ho hd => ?_
      rw [I.twr t k o ho hd]
      exact ⟨fun _ => lt_of ho, fun _ => hall k (lt_of ho)⟩
    rw [← this]
    exact I.fr

/-- Any order. -/
theorem Inv.any {F : Fence} (hF : FOK F) (Q : Exit → Act → World → Prop) (hQ : ∀ a w ρ, Rep C.G ρ w.heap (hs ops.size) → Step ρ0 w0 (hs 0) ρ w (hs ops.size) → FrR ρ nt a.tmps (frs ops.size) → a.defers = ds → Q .normal a w) :
    ∀ (fuel : Nat) (listed : Array Bool) (p : Nat) (τ : Nat → Nat) (ρ : Rho) (a : Act) (w : World), listed.size = ops.size → listed.toList.countP (fun b => !b) = fuel →
      (∀ j o, ops[j]? = some o → listed.getD j false = true → ∀ e ∈ o.after, Region.binds .any e = true → listed.getD e.on false = true) →
      Inv C nt ops frs hs ρ0 w0 ds (fun j => listed.getD j false = true) p τ ρ a w → wpAnyIn F 0 C.P .any ops Q fuel listed a w := by
  intro fuel
  -- what is not listed: one of it may come now
  have ready : ∀ (listed : Array Bool), listed.size = ops.size → Region.ready .any ops listed = [] → ∀ j, j < ops.size → listed.getD j false = true := by
    intro listed hsz' hnil j
    induction j using Nat.strongRecOn with
    | ind j ih =>
      intro hj
      by_cases hd : listed.getD j false = true
      · exact hd
      · exfalso
        have ho := Array.getElem?_eq_getElem hj
        have hm : j ∈ Region.ready .any ops listed := by
          rw [mem_ready]
          refine ⟨?_, _, ho, fun e he hb => ?_⟩
          · have hj' : j < listed.size := by omega
            rw [Array.getD_eq_getD_getElem?, Array.getElem?_eq_getElem hj'] at hd ⊢
            simpa using hd
          · have h1 := T.dr.back j _ ho e he hb
            exact ih e.on h1 (by omega)
        rw [hnil] at hm; cases hm
  induction fuel with
  | zero =>
    intro listed p τ ρ a w hsz' hcount hcl I
    have hall : ∀ j, j < ops.size → listed.getD j false = true := by
      intro j hj
      rw [List.countP_eq_zero] at hcount
      have hj' : j < listed.size := by omega
      have := hcount listed[j] (by simp)
      rw [Array.getD_eq_getD_getElem?, Array.getElem?_eq_getElem hj']
      simpa using this
    refine ⟨?_, ?_⟩
    · cases hrd : Region.ready .any ops listed with
      | nil => rfl
      | cons x xs =>
        have hm : x ∈ Region.ready .any ops listed := by rw [hrd]; simp
        rw [mem_ready] at hm
        obtain ⟨h1, o, ho, _⟩ := hm
        have hx := lt_of ho
        have := hall x hx
        have hx' : x < listed.size := by omega
        rw [Array.getD_eq_getD_getElem?, Array.getElem?_eq_getElem hx'] at this h1
        simp only [Option.getD_some] at this h1
        rw [this] at h1; cases h1
    · obtain ⟨h1, h2, h3⟩ := I.last T R0 hall
      exact hQ a w ρ h1 h2 h3 I.defers
  | succ fuel ih =>
    intro listed p τ ρ a w hsz' hcount hcl I
    refine ⟨fun hnil => ?_, fun i hi => ?_⟩
    · obtain ⟨h1, h2, h3⟩ := I.last T R0 (ready listed hsz' hnil)
      exact hQ a w ρ h1 h2 h3 I.defers
    · rw [mem_ready] at hi
      obtain ⟨h1, o, ho, hr⟩ := hi
      have hil := lt_of ho
      have hil' : i < listed.size := by omega
      have hget : listed[i]? = some false := by
        rw [Array.getD_eq_getD_getElem?, Array.getElem?_eq_getElem hil'] at h1
        rw [Array.getElem?_eq_getElem hil']
        simpa using h1
      have hnot : ¬ (listed.getD i false = true) := by rw [Array.getD_eq_getD_getElem?, hget]; simp
      have hset : ∀ j, (listed.setIfInBounds i true).getD j false = true ↔ (listed.getD j false = true ∨ j = i) := by
        intro j
        by_cases hji : j = i
        · subst hji; simp [hil']
        · rw [getD_set_ne false (Ne.symm hji)]
          exact ⟨.inl, fun h => h.resolve_right hji⟩
      refine I.take T R0 hcl ho hnot hr hF _ Q fun p' τ' ρ' a' w' I' => ?_
      refine ih (listed.setIfInBounds i true) p' τ' ρ' a' w' (by simpa using hsz') ?_ ?_ ?_
      · have hc : (listed.setIfInBounds i true).toList = listed.toList.set i true := by simp
        rw [hc]
        have hsp : ∀ (l : List Bool) (i : Nat), l[i]? = some false → (l.set i true).countP (fun b => !b) + 1 = l.countP (fun b => !b) := by
          intro l
          induction l with
          | nil => intro i h; simp at h
          | cons x l ih =>
            intro i h
            cases i with
            | zero => simp at h; subst h; simp
            | succ i =>
              simp only [List.getElem?_cons_succ] at h
              have := ih i h
              simp only [List.set_cons_succ, List.countP_cons]
              omega
        have := hsp listed.toList i (by simpa using hget)
        omega
      · intro j oj hoj hD e hee hb
        rw [hset] at hD ⊢
        rcases hD with hD | rfl
        · exact .inl (hcl j oj hoj hD e hee hb)
        · rw [ho] at hoj; cases hoj
          exact .inl (hr e hee hb)
      · have : (fun j => (listed.setIfInBounds i true).getD j false = true) = fun j => (listed.getD j false = true ∨ j = i) := by
          funext j; exact propext (hset j)
        rw [this]; exact I'

end

/-- The text's order, run. -/
theorem text_run {C : Ctx} {nt : Nat} {ops : Array Oper} {frs : Nat → Fr} {hs : Nat → Heap} (hok : ops.toList.all (okOper nt C.G) = true) (hstp : ∀ j o, ops[j]? = some o → StpAt C ops frs hs j o)
    {ρ0 : Rho} {w0 : World} {a0 : Act} (R0 : Rep C.G ρ0 w0.heap (hs 0)) (F0 : FrR ρ0 nt a0.tmps (frs 0)) : ∀ i, i ≤ ops.size →
      (∃ ρt wt at', Rep C.G ρt wt.heap (hs i) ∧ Step ρ0 w0 (hs 0) ρt wt (hs i) ∧ FrR ρt nt (Act.tmps at') (frs i)) ∧ ∀ j o, j < i → ops[j]? = some o → hsz (hs j) ≤ hsz (hs (j + 1)) := by
  intro i
  induction i with
  | zero => exact fun _ => ⟨⟨ρ0, w0, a0, R0, Step.refl _ _ _, F0⟩, fun j o h => by omega⟩
  | succ i ih =>
    intro hi
    obtain ⟨⟨ρt, wt, at', Rt, St, Ft⟩, hm⟩ := ih (by omega)
    have ho := Array.getElem?_eq_getElem (xs := ops) (i := i) (by omega)
    have fin : ∀ {ρ2 : Rho} {w2 : World} {a2 : Act}, Rep C.G ρ2 w2.heap (hs (i + 1)) → Step ρt wt (hs i) ρ2 w2 (hs (i + 1)) → FrR ρ2 nt a2.tmps (frs (i + 1)) → _ := fun {ρ2 w2 a2} R2 S2 F2 =>
      (⟨⟨ρ2, w2, a2, R2, Step.trans R0 St S2, F2⟩, fun j o hj hoj => by
        rcases Nat.lt_or_ge j i with h | h
        · exact hm j o h hoj
        · have : j = i := by omega
          subst this
          exact S2.hsize⟩ : (∃ ρt wt at', Rep C.G ρt wt.heap (hs (i + 1)) ∧ Step ρ0 w0 (hs 0) ρt wt (hs (i + 1)) ∧ FrR ρt nt (Act.tmps at') (frs (i + 1))) ∧ ∀ j o, j < i + 1 → ops[j]? = some o → hsz (hs j) ≤ hsz (hs (j + 1)))
    rcases hstp i _ ho with ⟨_, hf, hh⟩ | ⟨hw, v, hf, hop, _⟩
    · refine fin (ρ2 := ρt) (w2 := wt) (a2 := at'.put (ops[i]'(by omega)).dst undef) (by rw [hh]; exact Rt) (by rw [hh]; exact Step.refl _ _ _) ?_
      rw [hf]
      exact Ft.put VR.undef (okOper_dst (ops_all hok ho))
    · have hwp := hop Fence.wide (.inl rfl) ρt wt at' Rt (fun x hx => feval_ok Rt Ft (okOper_ops (ops_all hok ho) x hx))
        (fun a2 w2 => ∃ ρ2, Rep C.G ρ2 w2.heap (hs (i + 1)) ∧ Step ρt wt (hs i) ρ2 w2 (hs (i + 1)) ∧ FrR ρ2 nt a2.tmps (frs (i + 1)))
        (fun e a2 w2 => e = .normal ∧ ∃ ρ2, Rep C.G ρ2 w2.heap (hs (i + 1)) ∧ Step ρt wt (hs i) ρ2 w2 (hs (i + 1)) ∧ FrR ρ2 nt a2.tmps (frs (i + 1)))
        (fun ρ' w' vc R' S' hv => ⟨ρ', R', S', by rw [hf]; exact (Ft.mono S'.sub).put hv (okOper_dst (ops_all hok ho))⟩)
      have hwps : wpOpsIn Fence.wide 0 C.P ops (fun e a2 w2 => e = .normal ∧ ∃ ρ2, Rep C.G ρ2 w2.heap (hs (i + 1)) ∧ Step ρt wt (hs i) ρ2 w2 (hs (i + 1)) ∧ FrR ρ2 nt a2.tmps (frs (i + 1))) [i] at' wt := by
        simp only [wpOpsIn, ho, wanted_ok Ft ops _, hw, if_true]
        exact Oper.wpIn_mono (fun a w h => ⟨trivial, h⟩) hwp
      obtain ⟨e, a2, w2, ⟨_, ρ2, h1, h2, h3⟩, _⟩ := wp_opsIn [i] at' wt hwps (Frame.enter C.P 0 #[] .normal) [] [] rfl trivial (room_wide _)
      exact fin h1 h2 h3

theorem drawOK {C : Ctx} (hm : C.P.follows .mixedOrders = true) : DrawOK C := by
  intro nt ops hdr hok fr fr' h h' ht F hF ρ w a R hf t
  obtain ⟨frs, hs, e1, e2, e3, e4, e5, e6⟩ := ht.gen (Nat.zero_le _) (by simp [calmB])
  subst e1 e2 e3 e4
  have hrun := text_run hok (fun j o ho => e5 j o (Nat.zero_le j) ho) R hf
  have T : Text C nt ops frs hs ρ w := {
    dr := drawOk_spec hdr
    ok := hok
    stp := fun j o ho => e5 j o (Nat.zero_le j) ho
    calm := fun E R hE hR => e6 E R (.inr hE) (.inr hR)
    txt := fun i hi => (hrun i hi).1
    one := fun i o ho => (hrun (i + 1) (lt_of ho)).2 i o (by omega) ho }
  simp only [Region.schedule, hm, Bool.true_or, if_true]
  refine wpAnyIn_sound ops.size t _ a _ ?_
  refine Inv.any T R hF _ (fun a w ρ h1 h2 h3 h4 => ⟨rfl, h4, ρ, h1, h2, h3⟩) ops.size (Array.replicate ops.size false) 0 (fun _ => 0) ρ a { w with drawn := w.drawn + 1 } (by simp) (by simp [List.countP_replicate]) ?_ ?_
  · intro j o ho hD
    have : j < ops.size := lt_of ho
    simp [this] at hD
  · have hno : ∀ j, ¬ ((Array.replicate ops.size false).getD j false = true) := fun j h => by
      rw [Array.getD_eq_getD_getElem?, Array.getElem?_replicate] at h
      split at h <;> simp at h
    refine {
      pos := fun e o ho he => ⟨fun h => by omega, fun h => absurd h (hno e)⟩
      ple := Nat.zero_le _
      rep := R.congr fun k g hk => ?_
      sub := Sub.refl ρ
      dom := fun k g hk => .inl hk
      tot := fun j k hj => absurd hj (hno j)
      new := fun k g hk h0 => (by rw [h0] at hk; cases hk)
      size := Nat.le_refl _
      keep := fun r hr ha => rfl
      os := rfl
      tape := rfl
      output := rfl
      tle := fun t => Nat.zero_le _
      twr := fun t j o ho hd => ⟨fun h => by omega, fun h => absurd h (hno j)⟩
      fr := hf
      defers := rfl }
    have hlt := R.rho_lt hk
    obtain ⟨b, hb⟩ : ∃ b, hget (hs 0) k = some b := ⟨_, List.getElem?_eq_getElem hlt⟩
    rw [hb]
    exact mem_eq (Nat.lt_of_lt_of_le hlt (T.sz (Nat.zero_le _) (Nat.le_refl _))) (cnt_eq hb)

end Gl
end
