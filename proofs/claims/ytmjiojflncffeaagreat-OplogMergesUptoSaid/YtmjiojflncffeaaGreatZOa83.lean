/- Part 3 of what a law of this seat rests on. -/
import Derived.Shelf.SlLaysF0
import Derived.Ground.SlsfProg
import Derived.Test.YtmjiojflncffeaaGreatProg
import Derived.Shelf.SlSortCmp.WholeK
import Derived.Shelf.SlSortCmp.NoneTotal
import Derived.ChangeKeysEq
import Derived.Laws.StructEq
import Derived.Shelf.Strings.Search3
import Derived.Test.YtmjiojflncffeaaGreatZOa82
/-
  DERIVED: THE SHELF's CONTRACTS AT THIS DUMP, IN PLAIN WORDS (tools/lay-plain.mjs out of 'TryzShelf13o.lean', which tools/lay-shelf.mjs wrote): THE SAME DECLARATIONS UNDER THE SAME NAMES: 'import', 'namespace', 'open', 'def', 'theorem' AND NOTHING ELSE: no command of the shelf's: FOR A HAND-IN. Each laying: the table of numbers ('.._ren') and one theorem, a field a fact of the dump's own or the kernel's comparison; each contract: ONE APPLICATION.
-/
namespace Go.Proofs
open Go.Shelf
def Tryz.sortO_ren : Go.Shelf.Ren := ⟨fun | 6 => 38 | 15 => 76 | 14 => 75 | 28 => 116 | 29 => 117 | 20 => 108 | 21 => 109 | 22 => 110 | 23 => 111 | 24 => 112 | 25 => 113 | 26 => 114 | 27 => 115 | 46 => 138 | 47 => 139 | 48 => 140 | 49 => 141 | 50 => 142 | 57 => 159 | n => n, fun | 22 => 22 | 24 => 26 | 25 => 93 | 3 => 3 | 39 => 142 | 0 => 0 | 53 => 178 | 55 => 180 | 4 => 4 | 46 => 172 | 45 => 171 | 50 => 94 | 5 => 5 | 9 => 9 | 66 => 191 | 70 => 195 | 76 => 207 | 77 => 208 | n => n, fun | n => n⟩
theorem Tryz.sortO : Go.Proofs.SlLaysF0.n6 Tryz.prog Tryz.sortO_ren := {
  mixed := by kernel_rfl
  f6 := ⟨Tryz.f38.name, by decide, Tryz.func38.trans (congrArg some (by kernel_rfl))⟩
  f14 := ⟨Tryz.f75.name, by decide, Tryz.func75.trans (congrArg some (by kernel_rfl))⟩
  f15 := Tryz.func76.trans (congrArg some (by kernel_rfl))
  f20 := ⟨Tryz.f108.name, by decide, Tryz.func108.trans (congrArg some (by kernel_rfl))⟩
  f21 := ⟨Tryz.f109.name, by decide, Tryz.func109.trans (congrArg some (by kernel_rfl))⟩
  f22 := ⟨Tryz.f110.name, by decide, Tryz.func110.trans (congrArg some (by kernel_rfl))⟩
  f23 := ⟨Tryz.f111.name, by decide, Tryz.func111.trans (congrArg some (by kernel_rfl))⟩
  f24 := ⟨Tryz.f112.name, by decide, Tryz.func112.trans (congrArg some (by kernel_rfl))⟩
  f25 := ⟨Tryz.f113.name, by decide, Tryz.func113.trans (congrArg some (by kernel_rfl))⟩
  f26 := ⟨Tryz.f114.name, by decide, Tryz.func114.trans (congrArg some (by kernel_rfl))⟩
  f27 := ⟨Tryz.f115.name, by decide, Tryz.func115.trans (congrArg some (by kernel_rfl))⟩
  f28 := Tryz.func116.trans (congrArg some (by kernel_rfl))
  f29 := Tryz.func117.trans (congrArg some (by kernel_rfl))
  f46 := ⟨Tryz.f138.name, by decide, Tryz.func138.trans (congrArg some (by kernel_rfl))⟩
  f47 := Tryz.func139.trans (congrArg some (by kernel_rfl))
  f48 := Tryz.func140.trans (congrArg some (by kernel_rfl))
  f49 := ⟨Tryz.f141.name, by decide, Tryz.func141.trans (congrArg some (by kernel_rfl))⟩
  f50 := ⟨Tryz.f142.name, by decide, Tryz.func142.trans (congrArg some (by kernel_rfl))⟩
  f57 := ⟨Tryz.f159.name, by decide, Tryz.func159.trans (congrArg some (by kernel_rfl))⟩
  t0 := Tryz.underlying0
  a0 := Tryz.isAgg0
  z0 := Tryz.sizeOf0
  v0 := Tryz.zeroValue0
  t3 := Tryz.underlying3
  a3 := Tryz.isAgg3
  z3 := Tryz.sizeOf3
  v3 := Tryz.zeroValue3
  t4 := Tryz.underlying4
  a4 := Tryz.isAgg4
  z4 := Tryz.sizeOf4
  v4 := Tryz.zeroValue4
  t5 := Tryz.underlying5
  a5 := Tryz.isAgg5
  z5 := Tryz.sizeOf5
  v5 := Tryz.zeroValue5
  t9 := Tryz.underlying9
  a9 := Tryz.isAgg9
  z9 := Tryz.sizeOf9
  v9 := Tryz.zeroValue9
  t22 := Tryz.underlying22
  a22 := Tryz.isAgg22
  z22 := Tryz.sizeOf22
  v22 := Tryz.zeroValue22
  t25 := Tryz.underlying93
  a25 := Tryz.isAgg93
  z25 := Tryz.sizeOf93
  v25 := Tryz.zeroValue93
  t39 := Tryz.underlying142
  a39 := Tryz.isAgg142
  z39 := Tryz.sizeOf142
  v39 := Tryz.zeroValue142
  t45 := Tryz.underlying171
  a45 := Tryz.isAgg171
  z45 := Tryz.sizeOf171
  v45 := Tryz.zeroValue171
  t46 := Tryz.underlying172
  a46 := Tryz.isAgg172
  z46 := Tryz.sizeOf172
  v46 := Tryz.zeroValue172
  t50 := Tryz.underlying94
  a50 := Tryz.isAgg94
  z50 := Tryz.sizeOf94
  v50 := Tryz.zeroValue94
  t53 := Tryz.underlying178
  a53 := Tryz.isAgg178
  z53 := Tryz.sizeOf178
  v53 := Tryz.zeroValue178
  t55 := Tryz.underlying180
  a55 := Tryz.isAgg180
  z55 := Tryz.sizeOf180
  v55 := Tryz.zeroValue180
  t66 := Tryz.underlying191
  a66 := Tryz.isAgg191
  z66 := Tryz.sizeOf191
  v66 := Tryz.zeroValue191
  t70 := Tryz.underlying195
  a70 := Tryz.isAgg195
  z70 := Tryz.sizeOf195
  v70 := Tryz.zeroValue195
  t76 := Tryz.underlying207
  a76 := Tryz.isAgg207
  z76 := Tryz.sizeOf207
  v76 := Tryz.zeroValue207
  t77 := Tryz.underlying208
  a77 := Tryz.isAgg208
  z77 := Tryz.sizeOf208
  v77 := Tryz.zeroValue208 }
def Tryz.sortD_ren : Go.Shelf.Ren := ⟨fun | 6 => 45 | 15 => 76 | 14 => 80 | 28 => 116 | 29 => 117 | 20 => 120 | 21 => 121 | 22 => 122 | 23 => 123 | 24 => 124 | 25 => 125 | 26 => 126 | 27 => 127 | 46 => 143 | 47 => 139 | 48 => 140 | 49 => 144 | 50 => 145 | 57 => 160 | n => n, fun | 22 => 79 | 24 => 97 | 25 => 103 | 3 => 3 | 39 => 142 | 0 => 0 | 53 => 178 | 55 => 180 | 4 => 4 | 46 => 172 | 45 => 171 | 50 => 94 | 5 => 5 | 9 => 9 | 66 => 191 | 70 => 195 | 76 => 207 | 77 => 208 | n => n, fun | n => n⟩
theorem Tryz.sortD : Go.Proofs.SlLaysF0.n6 Tryz.prog Tryz.sortD_ren := {
  mixed := by kernel_rfl
  f6 := ⟨Tryz.f45.name, by decide, Tryz.func45.trans (congrArg some (by kernel_rfl))⟩
  f14 := ⟨Tryz.f80.name, by decide, Tryz.func80.trans (congrArg some (by kernel_rfl))⟩
  f15 := Tryz.func76.trans (congrArg some (by kernel_rfl))
  f20 := ⟨Tryz.f120.name, by decide, Tryz.func120.trans (congrArg some (by kernel_rfl))⟩
  f21 := ⟨Tryz.f121.name, by decide, Tryz.func121.trans (congrArg some (by kernel_rfl))⟩
  f22 := ⟨Tryz.f122.name, by decide, Tryz.func122.trans (congrArg some (by kernel_rfl))⟩
  f23 := ⟨Tryz.f123.name, by decide, Tryz.func123.trans (congrArg some (by kernel_rfl))⟩
  f24 := ⟨Tryz.f124.name, by decide, Tryz.func124.trans (congrArg some (by kernel_rfl))⟩
  f25 := ⟨Tryz.f125.name, by decide, Tryz.func125.trans (congrArg some (by kernel_rfl))⟩
  f26 := ⟨Tryz.f126.name, by decide, Tryz.func126.trans (congrArg some (by kernel_rfl))⟩
  f27 := ⟨Tryz.f127.name, by decide, Tryz.func127.trans (congrArg some (by kernel_rfl))⟩
  f28 := Tryz.func116.trans (congrArg some (by kernel_rfl))
  f29 := Tryz.func117.trans (congrArg some (by kernel_rfl))
  f46 := ⟨Tryz.f143.name, by decide, Tryz.func143.trans (congrArg some (by kernel_rfl))⟩
  f47 := Tryz.func139.trans (congrArg some (by kernel_rfl))
  f48 := Tryz.func140.trans (congrArg some (by kernel_rfl))
  f49 := ⟨Tryz.f144.name, by decide, Tryz.func144.trans (congrArg some (by kernel_rfl))⟩
  f50 := ⟨Tryz.f145.name, by decide, Tryz.func145.trans (congrArg some (by kernel_rfl))⟩
  f57 := ⟨Tryz.f160.name, by decide, Tryz.func160.trans (congrArg some (by kernel_rfl))⟩
  t0 := Tryz.underlying0
  a0 := Tryz.isAgg0
  z0 := Tryz.sizeOf0
  v0 := Tryz.zeroValue0
  t3 := Tryz.underlying3
  a3 := Tryz.isAgg3
  z3 := Tryz.sizeOf3
  v3 := Tryz.zeroValue3
  t4 := Tryz.underlying4
  a4 := Tryz.isAgg4
  z4 := Tryz.sizeOf4
  v4 := Tryz.zeroValue4
  t5 := Tryz.underlying5
  a5 := Tryz.isAgg5
  z5 := Tryz.sizeOf5
  v5 := Tryz.zeroValue5
  t9 := Tryz.underlying9
  a9 := Tryz.isAgg9
  z9 := Tryz.sizeOf9
  v9 := Tryz.zeroValue9
  t22 := Tryz.underlying79
  a22 := Tryz.isAgg79
  z22 := Tryz.sizeOf79
  v22 := Tryz.zeroValue79
  t25 := Tryz.underlying103
  a25 := Tryz.isAgg103
  z25 := Tryz.sizeOf103
  v25 := Tryz.zeroValue103
  t39 := Tryz.underlying142
  a39 := Tryz.isAgg142
  z39 := Tryz.sizeOf142
  v39 := Tryz.zeroValue142
  t45 := Tryz.underlying171
  a45 := Tryz.isAgg171
  z45 := Tryz.sizeOf171
  v45 := Tryz.zeroValue171
  t46 := Tryz.underlying172
  a46 := Tryz.isAgg172
  z46 := Tryz.sizeOf172
  v46 := Tryz.zeroValue172
  t50 := Tryz.underlying94
  a50 := Tryz.isAgg94
  z50 := Tryz.sizeOf94
  v50 := Tryz.zeroValue94
  t53 := Tryz.underlying178
  a53 := Tryz.isAgg178
  z53 := Tryz.sizeOf178
  v53 := Tryz.zeroValue178
  t55 := Tryz.underlying180
  a55 := Tryz.isAgg180
  z55 := Tryz.sizeOf180
  v55 := Tryz.zeroValue180
  t66 := Tryz.underlying191
  a66 := Tryz.isAgg191
  z66 := Tryz.sizeOf191
  v66 := Tryz.zeroValue191
  t70 := Tryz.underlying195
  a70 := Tryz.isAgg195
  z70 := Tryz.sizeOf195
  v70 := Tryz.zeroValue195
  t76 := Tryz.underlying207
  a76 := Tryz.isAgg207
  z76 := Tryz.sizeOf207
  v76 := Tryz.zeroValue207
  t77 := Tryz.underlying208
  a77 := Tryz.isAgg208
  z77 := Tryz.sizeOf208
  v77 := Tryz.zeroValue208 }
end Go.Proofs

/- Structs behind pointers, handed out and taken in; what is known of memory. -/
set_option linter.unusedVariables false
set_option linter.unusedSimpArgs false
namespace Go.Proofs.YtmjiojflncffeaaGreat.Vc
open Go

section
variable {C : Ctx} {loc : Loc} {pv : List (Nat × PV)} {ph : List PH} {m : PH} {w : World}

/-- What is one's own becomes memory at one's disposal. -/
theorem HR.release (hH : HR C loc pv ph m w) {k b o c : Nat} {y : PV} {ob : Obj} (hk : look pv k = some y) (ho : y.own = true) (hl : loc k = some (b, o, c)) (hb : w.heap[b]? = some ob) :
    HR C loc (dropK k pv) ph (uni (one b ob) m) w ∧ dis (one b ob) m := by
  obtain ⟨q1, q2, q3⟩ := hH.priv k _ b o c hk ho hl
  have hdis : dis (one b ob) m := fun j => by
    by_cases hj : j = b
    · subst hj; exact .inr q2
    · exact .inl (by simp [one, hj])
  have hun : ∀ j o', uni (one b ob) m j = some o' → (j = b ∧ o' = ob) ∨ (j ≠ b ∧ m j = some o') := fun j o' hj => by
    by_cases hjb : j = b
    · subst hjb; simp [uni, one] at hj; exact .inl ⟨rfl, hj.symm⟩
    · simp [uni, one, hjb] at hj; exact .inr ⟨hjb, hj⟩
  have hnb : ∀ j, j ≠ b → uni (one b ob) m j = m j := fun j hj => by simp [uni, one, hj]
  refine ⟨⟨hH.kept, fun j y hj => ?_, fun j j' y y' b o c o' c' h1 h2 h3 h4 => ?_, fun j y b' o' c' h1 h2 h3 => ?_, fun j o' hj => ?_, fun j hj => ?_, fun u hu => ⟨(hH.phs u hu).1, fun j hj => ?_⟩⟩, hdis⟩
  · rw [look_dropK] at hj; split at hj
    · cases hj
    · exact hH.pvs j y hj
  · rw [look_dropK] at h1 h4
    split at h1
    · cases h1
    · split at h4
      · cases h4
      · exact hH.apart j j' y y' b o c o' c' h1 h2 h3 h4
  · rw [look_dropK] at h1
    split at h1
    · cases h1
    · rename_i hjk
      obtain ⟨e1, e2, e3⟩ := hH.priv j y b' o' c' h1 h2 h3
      have hbb : b' ≠ b := fun e => hjk (hH.apart j k y _ b' o' c' o c h1 h2 h3 hk ho (e ▸ hl))
      exact ⟨e1, by rw [hnb _ hbb]; exact e2, e3⟩
  · rcases hun j o' hj with ⟨rfl, rfl⟩ | ⟨_, h5⟩
    · exact hb
    · exact hH.mle j o' h5
  · by_cases hjb : j = b
    · subst hjb; exact q1
    · rw [hnb j hjb] at hj
      exact hH.mmine j hj
  · have hjb : j ≠ b := fun e => by subst e; exact hj (q3 u hu)
    obtain ⟨e1, e2⟩ := (hH.phs u hu).2 j hj
    exact ⟨e1, by rw [hnb _ hjb]; exact e2⟩

theorem look_kill_dom {k : Nat} : ∀ (l : List (Nat × SV)) {t : Nat}, look l t = none → look (kill k l) t = none
  | [], _, _ => rfl
  | (j, y) :: l, t, hl => by
    simp only [look] at hl
    split at hl
    · cases hl
    · rename_i e
      simp only [kill]
      cases y.mentions k <;> simp only [cond_true, cond_false, look, if_neg e] <;> exact look_kill_dom l hl

/-- The slots, where k is let go. -/
theorem FR.dropK {N : Nat} {fr : List (Nat × SV)} {a : Act} (hF : FR loc N fr pv ph a) (k t : Nat) {v : Value} (hv : a.tmps[t]? = some v) (ho : v.oneCell' = true) : FR loc N ((t, .g (.s v)) :: kill k fr) (dropK k pv) ph a := by
  refine ⟨hF.defers, hF.size, fun u x hx => ?_⟩
  simp only [look] at hx
  split at hx
  · rename_i e; subst e
    simp at hx; subst hx
    exact ⟨v, hv, ho, rfl⟩
  · rcases look_kill _ _ _ hx with rfl | ⟨h1, h2⟩
    · cases hc : look fr u with
      | none => rw [look_kill_dom _ hc] at hx; cases hx
      | some y =>
        obtain ⟨v2, hv2, _⟩ := hF.slots u y hc
        exact ⟨v2, hv2, trivial⟩
    · obtain ⟨v2, hv2, hr2⟩ := hF.slots u x h1
      exact ⟨v2, hv2, hr2.weaken fun j hj => ⟨rfl, by rw [look_dropK, if_neg (fun e => by subst e; rw [hj] at h2; cases h2)]⟩⟩
end

theorem uni_no_r (m : PH) : uni m PH.no = m := by funext k; simp only [uni, PH.no]; cases m k <;> rfl
theorem uni_comm {a b : PH} (h : dis a b) : uni a b = uni b a := by
  funext k
  simp only [uni]
  rcases h k with e | e
  · rw [e]; cases b k <;> rfl
  · rw [e]; cases a k <;> rfl
theorem dis_comm {a b : PH} (h : dis a b) : dis b a := fun k => (h k).symm
theorem dis_no_r (a : PH) : dis a PH.no := fun k => .inr rfl
theorem uni_assoc (a b c : PH) : uni (uni a b) c = uni a (uni b c) := by
  funext k
  simp only [uni]
  cases a k <;> rfl
theorem dis_uni_r {a b c : PH} (h1 : dis a b) (h2 : dis a c) : dis a (uni b c) := fun k => by
  rcases h1 k with e | e
  · exact .inl e
  · rcases h2 k with e2 | e2
    · exact .inl e2
    · exact .inr (by simp [uni, e, e2])
theorem dis_uni_l {a b c : PH} (h1 : dis a c) (h2 : dis b c) : dis (uni a b) c := dis_comm (dis_uni_r (dis_comm h1) (dis_comm h2))
theorem dis_of_uni_r {a b c : PH} (h : dis a (uni b c)) : dis a b ∧ dis a c := by
  refine ⟨fun k => ?_, fun k => ?_⟩
  · rcases h k with e | e
    · exact .inl e
    · simp only [uni] at e
      cases hb : b k with
      | none => exact .inr rfl
      | some o => rw [hb] at e; cases e
  · rcases h k with e | e
    · exact .inl e
    · simp only [uni] at e
      cases hb : b k with
      | none => rw [hb] at e; exact .inr (by simpa using e)
      | some o => rw [hb] at e; cases e
/-- A call that only reads, one's own memory too; what it makes lies apart. -/
theorem call_ownm {C : Ctx} {σ : SS} {f : Nat} {args : List Opd} {d : Option Nat} {K : KT} {svs : List SV} {Q : List GV → PH → Prop} (hd : dOk d C.N = true) (ha : evL σ args = some svs)
    (hs : ∀ w vs, ArgsV C σ w svs vs → C.u0.le w → (∀ u ∈ σ.ph, u.le w) → σ.m.le w → Spec C.P f vs PH.no w Q)
    (hK : ∀ rs m', (∀ r ∈ rs, r.ok) → Q rs m' → dis m' σ.m → K ({ σ with m := uni m' σ.m }.put d (retS rs))) : vcCall C f args d K σ :=
  call_anym (dOk_spec hd) ha (uni_no σ.m).symm (dis_no _) hs fun rs m' h1 h2 h3 => .inl (hK rs m' h1 h2 h3)
/-- The same; what it makes is only read. -/
theorem call_frzm {C : Ctx} {σ : SS} {f : Nat} {args : List Opd} {d : Option Nat} {K : KT} {svs : List SV} {Q : List GV → PH → Prop} (hd : dOk d C.N = true) (ha : evL σ args = some svs)
    (hs : ∀ w vs, ArgsV C σ w svs vs → C.u0.le w → (∀ u ∈ σ.ph, u.le w) → σ.m.le w → Spec C.P f vs PH.no w Q)
    (hK : ∀ rs m', (∀ r ∈ rs, r.ok) → Q rs m' → K ({ σ with ph := m' :: σ.ph }.put d (retS rs))) : vcCall C f args d K σ :=
  call_anym (dOk_spec hd) ha (uni_no σ.m).symm (dis_no _) hs fun rs m' h1 h2 h3 => .inr (.inl (hK rs m' h1 h2))

/-- A call that reads, one's own memory too, with results that are known. -/
theorem call_ism {C : Ctx} {σ : SS} {f : Nat} {args : List Opd} {d : Option Nat} {K : KT} (svs : List SV) (rs : List GV) (hd : dOk d C.N = true) (ha : evL σ args = some svs)
    (hs : ∀ w vs, ArgsV C σ w svs vs → C.u0.le w → (∀ u ∈ σ.ph, u.le w) → σ.m.le w → Spec C.P f vs PH.no w fun rs' _ => rs' = rs) (hK : K (σ.put d (retS rs))) : vcCall C f args d K σ :=
  call_anym (dOk_spec hd) ha (uni_no σ.m).symm (dis_no _) hs fun rs' m' _ h2 _ => by subst h2; exact .inr (.inr hK)

theorem eqG_ptr {P : Program} {t e : TypeId} (ht : P.underlying t = some (.pointer e)) (ad : Addr) : EqG P t (.s (.pointer (some ad))) (.s (.pointer none)) false := by
  intro x y w
  exact ⟨by simp [eqGuard, binOp, Sem.run_bind, GV.val, run_eq_ptr ht], by simp [eqGuard, binOp, Sem.run_bind, GV.val, run_eq_ptr ht]⟩
theorem eqG_nilp {P : Program} {t e : TypeId} (ht : P.underlying t = some (.pointer e)) : EqG P t (.s (.pointer none)) (.s (.pointer none)) true := by
  have h0 : ∀ d w, (Op.equalIn (d + 1) t (.pointer none) (.pointer none)).run P w = .ok true w := fun d w => by
    simp [Op.equalIn, Sem.run_bind, run_underlying' ht]
  have h : ∀ w, (Op.equal t (.pointer none) (.pointer none)).run P w = .ok true w := fun w => h0 9999 w
  intro x y w
  exact ⟨by simp [eqGuard, binOp, Sem.run_bind, GV.val, h], by simp [eqGuard, binOp, Sem.run_bind, GV.val, h]⟩

/-- A pointer to a struct, in memory of its own. -/
def PtO (u : PH) (v : Value) (g : GV) : Prop := g.ok ∧ ∃ b e, v = .pointer (some ⟨b, 0, none⟩) ∧ u = one b (.cells g.flat.toArray e (0, 0))

section
variable {C : Ctx} {σ : SS} {a : Act} {w : World} {K : KT}

theorem Rel.pubBox (h : Rel C σ a w) {t k : Nat} {g : GV} (ht : look σ.fr t = some (.ref k [])) (hk : look σ.pv k = some (.box g)) :
    ∃ v u, v.oneCell' = true ∧ PtO u v g ∧ dis u σ.m ∧ Rel C ⟨(t, .g (.s v)) :: kill k σ.fr, dropK k σ.pv, σ.ph, uni u σ.m⟩ a w := by
  obtain ⟨loc, hF, hH⟩ := h
  obtain ⟨v, hv, g', b, c, y, e1, e2, e3, e4⟩ := hF.slots t _ ht
  rw [hk] at e1
  obtain rfl : g = g' := by simpa using e1
  obtain ⟨hok, b', c', e, hl, hb⟩ := hH.pvs k _ hk
  rw [e2] at hl
  obtain ⟨rfl, rfl⟩ : b = b' ∧ c = c' := by simpa using hl
  have hoff : g.offs [] = 0 := by cases g <;> rfl
  rw [hoff] at e4
  obtain ⟨h1, h2⟩ := hH.release hk rfl e2 hb
  subst e4
  exact ⟨_, _, rfl, ⟨hok, b, e, rfl, rfl⟩, h2, loc, hF.dropK k t hv rfl, h1⟩

/-- A variable of one's own, handed out. -/
theorem gh_pubBox (t k : Nat) {g : GV} (ht : look σ.fr t = some (.ref k [])) (hk : look σ.pv k = some (.box g))
    (hK : ∀ v u, v.oneCell' = true → PtO u v g → dis u σ.m → K ⟨(t, .g (.s v)) :: kill k σ.fr, dropK k σ.pv, σ.ph, uni u σ.m⟩) : ghC C K σ := by
  constructor
  intro a w hR
  obtain ⟨v, u, h1, h2, h3, h4⟩ := hR.pubBox ht hk
  exact ⟨_, h4, hK v u h1 h2 h3⟩

theorem flats_take {z : Nat} {xs : List GV} (h : Els z xs) (n : Nat) {j : Nat} {v : Value} (hj : (flats (xs.take n))[j]? = some v) : (flats xs)[j]? = some v := by
  have e : flats xs = flats (xs.take n) ++ flats (xs.drop n) := by rw [← flats_append, List.take_append_drop]
  rw [e]
  have hl : j < (flats (xs.take n)).length := by
    rcases Nat.lt_or_ge j (flats (xs.take n)).length with h | h
    · exact h
    · rw [List.getElem?_eq_none h] at hj; cases hj
  rw [List.getElem?_append_left hl]
  exact hj

/-- All of it is known. -/
def KN (u0 : PH) (L : List PH) (U : PH) : Prop := ∀ b o, U b = some o → u0 b = some o ∨ ∃ u ∈ L, u b = some o

theorem KN.u0 (u0 : PH) (L : List PH) : KN u0 L u0 := fun b o h => .inl h
theorem KN.mem {u0 : PH} {L : List PH} {u : PH} (h : u ∈ L) : KN u0 L u := fun b o hb => .inr ⟨u, h, hb⟩
theorem KN.cons {u0 : PH} {L : List PH} {U u : PH} (h : KN u0 L U) : KN u0 (u :: L) U := fun b o hb => (h b o hb).imp id fun ⟨v, hv, e⟩ => ⟨v, List.mem_cons_of_mem _ hv, e⟩
theorem KN.uni {u0 : PH} {L : List PH} {U V : PH} (h : KN u0 L U) (h' : KN u0 L V) : KN u0 L (uni U V) := fun b o hb => by
  simp only [Vc.uni] at hb
  cases hU : U b with
  | some x =>
    rw [hU] at hb
    simp at hb
    subst hb
    exact h b _ hU
  | none =>
    rw [hU] at hb
    simp at hb
    exact h' b o hb
theorem KN.le {u0 : PH} {L : List PH} {U : PH} {w : World} (h : KN u0 L U) (h1 : u0.le w) (h2 : ∀ u ∈ L, u.le w) : U.le w := fun b o hb => by
  rcases h b o hb with h | ⟨u, hu, h⟩
  · exact h1 b o h
  · exact h2 u hu b o h

/-- A slice that reads so, out of what is known. -/
theorem Rel.rk (h : Rel C σ a w) {t : Nat} (k : Nat) {v : Value} {z : Nat} (df : GV) {xs : List GV} {u : PH} (ht : look σ.fr t = some (.g (.s v))) (hk : look σ.pv k = none) (hs : SlR u v z xs) (hu : KN C.u0 σ.ph u) :
    Rel C ⟨(t, .row k 0 xs.length) :: σ.fr, (k, .ro z df xs) :: σ.pv, σ.ph, σ.m⟩ a w := by
  obtain ⟨hels, hs'⟩ := hs
  rcases hs' with ⟨rfl, rfl⟩ | ⟨ad, c, rfl, h1, h2⟩
  · exact h.ro k df ht hk ⟨hels, .inl ⟨rfl, rfl⟩⟩ (.inl rfl)
  · rcases Nat.eq_zero_or_pos c with hc | hc
    · exact h.ro k df ht hk ⟨hels, .inr ⟨ad, c, rfl, h1, fun hc' => absurd hc' (by omega)⟩⟩ (.inl rfl)
    · obtain ⟨cs, e, fz, g1, g2, g3⟩ := h2 hc
      rcases hu _ _ g2 with h3 | ⟨u', hu', h3⟩
      · exact h.ro k df ht hk ⟨hels, .inr ⟨ad, c, rfl, h1, fun _ => ⟨cs, e, fz, g1, h3, g3⟩⟩⟩ (.inl rfl)
      · exact h.ro k df ht hk ⟨hels, .inr ⟨ad, c, rfl, h1, fun _ => ⟨cs, e, fz, g1, h3, g3⟩⟩⟩ (.inr hu')

theorem gh_rk (t k : Nat) {v : Value} {z : Nat} (df : GV) {xs : List GV} {u : PH} (ht : look σ.fr t = some (.g (.s v))) (hk : look σ.pv k = none) (hs : SlR u v z xs) (hu : KN C.u0 σ.ph u)
    (hK : K ⟨(t, .row k 0 xs.length) :: σ.fr, (k, .ro z df xs) :: σ.pv, σ.ph, σ.m⟩) : ghC C K σ :=
  ⟨fun a w hR => ⟨_, hR.rk k df ht hk hs hu, hK⟩⟩

theorem slr_len {u : PH} {v : Value} {z : Nat} {xs : List GV} (h : SlR u v z xs) : ∃ a c, v = .slice a xs.length c := by
  rcases h.2 with ⟨rfl, rfl⟩ | ⟨a, c, rfl, _⟩
  · exact ⟨none, 0, rfl⟩
  · exact ⟨_, _, rfl⟩
end
end Go.Proofs.YtmjiojflncffeaaGreat.Vc

/- slices.SortFunc at structs, of one's own memory: the kit's contract in our words. -/
set_option linter.unusedVariables false
set_option linter.unusedSimpArgs false
set_option maxRecDepth 100000
namespace Go.Proofs.YtmjiojflncffeaaGreat.Vc
open Go Go.Proofs Go.Sort Go.Shelf Go.Lib

section
variable {α : Type} [Inhabited α] {P : Program} {ρ : Ren} {e : TypeId} {z : Nat} {g : α → GV} {cf : α → α → Int}
theorem flats_G (hok : ∀ x, (g x).ok) (hsz : ∀ x, (g x).sz = z) (hz : 0 < z) (cs : List α) {j : Nat} (hj : j < cs.length * z) : (flats (cs.map g))[j]? = some (flatK (fun x => (g x).flat) z cs.toArray)[j]! := by
  have hi : j / z < cs.length := Nat.div_lt_of_lt_mul (by rw [Nat.mul_comm]; exact hj)
  have hx : (cs.map g)[j / z]? = some (g cs[j / z]) := by rw [List.getElem?_map, List.getElem?_eq_getElem hi]; rfl
  have hlen : (g cs[j / z]).flat.length = z := by rw [GV.flat_len _ (hok _), hsz]
  have hm : j % z < (g cs[j / z]).flat.length := by rw [hlen]; exact Nat.mod_lt _ hz
  have els : Els z (cs.map g) := fun x hx => by
    obtain ⟨c, _, rfl⟩ := List.mem_map.1 hx
    exact ⟨hok c, hsz c⟩
  have h := flats_at els hx (j % z) _ (List.getElem?_eq_getElem hm)
  rw [show j / z * z + j % z = j by rw [Nat.mul_comm]; exact Nat.div_add_mod j z] at h
  rw [h, get_flatK (fun x => (g x).flat) z cs.toArray j (by simpa using hj)]
  have e1 : cs.toArray[j / z]! = cs[j / z] := by
    rw [getElem!_pos cs.toArray (j / z) (by simpa using hi)]
    simp
  rw [e1, getElem!_pos ((g cs[j / z]).flat) (j % z) hm]
theorem sortF_spec (L : SlLaysF0.n6 P ρ) (aE : ∀ w, (isAgg (ρ.t 24)).run P w = .ok true w) (zE : ∀ w, (Go.sizeOf (ρ.t 24)).run P w = .ok z w) (hok : ∀ x, (g x).ok) (hone : ∀ x, ∀ v ∈ (g x).flat, v.oneCell' = true) (hsz : ∀ x, (g x).sz = z) (hz : 0 < z) (hO : SWO (ltOf cf)) {gf : Nat}
    (eg : ∀ args w, (callFunc gf args).run P w = .ok (.enter gf args) w) (hcmp : ∀ blk off size w, CmpLays P gf #[] (fun x => (g x).flat) z cf blk off size w)
    (w : World) (v : Value) (cs : List α) (m : PH) (hS : SlO m v e z (cs.map g)) (hl : cs.length ≤ 1099511627776) :
    Spec P (ρ.f 6) [v, .func (.func gf) #[] #[]] m w fun rs m' => rs = [] ∧ ∃ cs' : List α, cs'.Perm cs ∧ cs'.Pairwise (fun x y => ltOf cf y x = false) ∧ SlO m' v e z (cs'.map g) := by
  intro hm
  have elsG : ∀ cs : List α, Els z (cs.map g) := fun cs x hx => by
    obtain ⟨c, _, rfl⟩ := List.mem_map.1 hx
    exact ⟨hok c, hsz c⟩
  by_cases h0 : cs = []
  · subst h0
    have key : ∀ p cap, v = .slice p 0 cap → Calls P (ρ.f 6) #[v, .func (.func gf) #[] #[]] w fun e w' => e = .returned (.tuple #[]) ∧ w' = w := fun p cap e => by
      rw [e]; exact AnyF.slices_SortFunc_none L p cap _ w
    have hv : ∃ p cap, v = .slice p 0 cap := by
      obtain ⟨_, ⟨h1, _⟩ | ⟨a, c, h1, _⟩⟩ := hS
      · exact ⟨none, 0, h1⟩
      · exact ⟨some a, c, h1⟩
    obtain ⟨p, cap, e⟩ := hv
    refine (key p cap e).mono fun e w' ⟨he, hw⟩ => ?_
    subst hw
    exact ⟨[], m, he, by simp, ⟨rfl, [], List.Perm.refl _, List.Pairwise.nil, hS⟩, hm, fun b hb => .inl hb, Kept.refl m w'⟩
  · obtain ⟨hels, ⟨_, h1⟩ | ⟨⟨b, o, sp⟩, c, rfl, hc, hs⟩⟩ := hS
    · exact absurd (by simpa using h1) h0
    have hlen : 0 < cs.length := List.length_pos_iff.2 h0
    rw [List.length_map] at hc
    obtain ⟨cl, hsp, hszc, hb, hrow⟩ := hs (by omega)
    simp only at hsp hszc hb hrow
    subst hsp
    rw [List.length_map]
    have hwb := hm b _ hb
    have hblk : b < w.heap.size := by
      rw [Array.getElem?_eq_some_iff] at hwb
      exact hwb.1
    have hH : HoldsK (fun x => (g x).flat) z w b o cs.toArray := fun j hj => by
      have hj' : j < cs.length * z := by simpa using hj
      have hcell := hrow j _ (flats_G hok hsz hz cs hj')
      refine ⟨?_, ?_⟩
      · simp only [World.cell?, hwb]
        simpa using hcell
      · simp [World.frozen?, hwb]
    have hcon := AnyQ.slices_SortFunc L z aE zE (fun x => (g x).flat) (fun x => by rw [GV.flat_len _ (hok x), hsz]) hone cf hO gf #[] b o c cs.toArray w eg (hcmp b o _ w) hH hblk (by simp; omega)
    rw [List.size_toArray] at hcon
    refine hcon.mono fun e' w' ⟨he, d', n, os, hp, hso, hw⟩ => ?_
    have hsz' : d'.size = cs.length := by have := hp.1; simpa using this
    have hperm : d'.toList.Perm cs := by
      have h2 := hp.2.2
      have e1 : d'.extract 0 cs.length = d' := by rw [← hsz']; exact Array.extract_size
      have e2 : cs.toArray.extract 0 cs.length = cs.toArray := by
        simp
      rw [e1, e2] at h2
      simpa using h2
    have hpw : d'.toList.Pairwise (fun x y => ltOf cf y x = false) := by
      rw [List.pairwise_iff_getElem]
      intro i j hi hj hij
      have := hso i j (Nat.zero_le _) hij (by simpa [hsz'] using hj)
      rw [getElem!_pos d' i (by simpa using hi), getElem!_pos d' j (by simpa using hj)] at this
      simpa using this
    generalize hF : flatK (fun x => (g x).flat) z d' = F at *
    have hFs : F.size = cs.length * z := by rw [← hF, size_flatK, hsz']
    have hheap : w'.heap = (w.heap.modify b (onCells (putCells id o F))) ++ os := by rw [hw, ← hF]; rfl
    have hwb' : w'.heap[b]? = some (.cells (putCells id o F cl) e (0, 0)) := by
      rw [hheap, Array.getElem?_append_left (by simpa using hblk), Array.getElem?_modify, if_pos rfl, hwb]
      rfl
    have hdl : d'.toList.length = cs.length := by simpa using hsz'
    refine ⟨[], one b (.cells (putCells id o F cl) e (0, 0)), he, by simp, ⟨rfl, d'.toList, hperm, hpw, elsG _, .inr ⟨⟨b, o, none⟩, c, by rw [List.length_map, hdl], by rw [List.length_map, hdl]; exact hc, fun _ => ⟨putCells id o F cl, rfl, by simp only [putCells, Array.size_mapIdx]; exact hszc, by simp [one], fun j v hj => ?_⟩⟩⟩, fun k x hk => ?_, fun k hk => ?_, ?_⟩
    · have hjl : j < d'.toList.length * z := by
        have := List.getElem?_eq_some_iff.1 hj
        have h2 := this.1
        rw [flats_len (elsG _), List.length_map] at h2
        exact h2
      rw [flats_G hok hsz hz _ hjl] at hj
      rw [hdl] at hjl
      have hj : F[j]! = v := by
        rw [← hF, show d' = d'.toList.toArray by simp]
        exact Option.some.inj hj
      have hcell : ∃ x, cl[o + j]? = some x := ⟨_, hrow j _ (flats_G hok hsz hz cs hjl)⟩
      obtain ⟨x, hx⟩ := hcell
      simp only [putCells]
      rw [Array.getElem?_mapIdx, hx, Option.map_some, if_pos ⟨by omega, by omega⟩, show o + j - o = j by omega, hj]
      rfl
    · simp only [one] at hk
      split at hk
      · rename_i e; subst e; cases hk; exact hwb'
      · cases hk
    · simp only [one] at hk
      split at hk
      · rename_i e; subst e; exact .inl (by rw [hb]; simp)
      · exact absurd rfl hk
    · refine ⟨by rw [hw]; rfl, by rw [hw]; rfl, by rw [hw]; rfl, by rw [hheap]; simp, fun k hk hmk => ?_⟩
      have hkb : b ≠ k := fun e => by subst e; rw [hb] at hmk; cases hmk
      rw [hheap, Array.getElem?_append_left (by simpa using hk), Array.getElem?_modify, if_neg hkb]
end
end Go.Proofs.YtmjiojflncffeaaGreat.Vc

/- Plain data and their trees. -/
set_option linter.unusedVariables false
set_option linter.unusedSimpArgs false
namespace Go.Proofs.YtmjiojflncffeaaGreat.Vc
open Go

theorem wrap64 {x : Int} (h1 : -9223372036854775808 ≤ x) (h2 : x ≤ 9223372036854775807) : IntKind.i64.wrap x = x := by
  simp only [IntKind.wrap, IntKind.bits, IntKind.signed]
  have : (2 : Int) ^ 64 = 18446744073709551616 := by decide
  have : (2 : Int) ^ 63 = 9223372036854775808 := by decide
  by_cases h : 0 ≤ x
  · have h3 : x % 18446744073709551616 = x := Int.emod_eq_of_lt h (by omega)
    simp_all
    try omega
  · have h3 : x % 18446744073709551616 = x + 18446744073709551616 := by omega
    simp_all
    try omega
theorem wrap_n {n : Nat} (h : n < 9223372036854775807) : IntKind.i64.wrap ((n : Int) + 1) = ((n + 1 : Nat) : Int) := by rw [wrap64 (by omega) (by omega)]; rfl

theorem fits_s (v : Value) (n : Nat) (b : Bool) : GV.fits (.s v) n b = !b := rfl
/-! ### Numbers -/
def gi (n : Int) : GV := .s (.int .i64 n)
theorem getD_gi (l : List Int) (i : Nat) : (l.map gi).getD i (gi 0) = .s (.int .i64 (l.getD i 0)) := by
  rw [List.getD_eq_getElem?_getD, List.getElem?_map, List.getD_eq_getElem?_getD]
  cases l[i]? <;> rfl
/-! ### Eight numbers -/
def upd {α : Type} (f : Nat → α) (j : Nat) (x : α) : Nat → α := fun k => if k = j then x else f k
def gVec (f : Nat → Int) : GV := .ar 8 1 fun j => .s (.int .i64 (f j))
theorem gVec_sz (f : Nat → Int) : (gVec f).sz = 8 := rfl
theorem getT_nil (g : GV) : g.getT [] = g := by cases g <;> rfl
theorem get_nil (g : GV) : g.get [] = some g := by cases g <;> rfl
theorem setT_nil (g x : GV) : g.setT [] x = x := by cases g <;> rfl

def gVec2 (f : Nat → Nat → Int) : GV := .ar 8 8 fun j => gVec (f j)
theorem gVec2_sz (f : Nat → Nat → Int) : (gVec2 f).sz = 64 := rfl
theorem same_int (k k' : IntKind) (x y : Int) : GV.same (.s (.int k x)) (.s (.int k' y)) = True := eq_true trivial
/-! ### Lists -/
end Go.Proofs.YtmjiojflncffeaaGreat.Vc

/- Plain structs of a tree. -/
set_option linter.unusedVariables false
set_option linter.unusedSimpArgs false
namespace Go.Proofs.YtmjiojflncffeaaGreat.Vc
open Go

structure Stamp where
  time : Int
  site : Int
def zStamp : Stamp := ⟨0, 0⟩
def gStamp (x : Stamp) : GV := .c (.s (.int .i64 x.time)) (.c (.s (.int .i64 x.site)) .u)
theorem gStamp_ok (x : Stamp) : (gStamp x).ok := ⟨rfl, rfl, trivial⟩
theorem gStamp_sz (x : Stamp) : (gStamp x).sz = 2 := by simp [gStamp, GV.sz, gVec_sz, gVec2_sz]
theorem gStamp_fits (x : Stamp) : (gStamp x).fits 2 true = true := by
  show (true && (gStamp x).sz == 2) = true
  rw [gStamp_sz]; rfl
theorem gStamp_same (x y : Stamp) : (gStamp x).same (gStamp y) = True := eq_true ⟨trivial, trivial, trivial⟩
theorem gStamp_fld0 (x : Stamp) : (gStamp x).fld 0 0 = true := by simp [gStamp, GV.fld, GV.sz, gVec_sz, gVec2_sz]
theorem gStamp_get0 (x : Stamp) (p : List Nat) : (gStamp x).getT (0 :: p) = GV.getT (.s (.int .i64 x.time)) p := by simp [gStamp, GV.getT]
theorem gStamp_set0 (x : Stamp) (v : Int) : (gStamp x).setT [0] (.s (.int .i64 v)) = gStamp { x with time := v } := by simp [gStamp, GV.setT, setT_nil]
theorem gStamp_fld1 (x : Stamp) : (gStamp x).fld 1 1 = true := by simp [gStamp, GV.fld, GV.sz, gVec_sz, gVec2_sz]
theorem gStamp_get1 (x : Stamp) (p : List Nat) : (gStamp x).getT (1 :: p) = GV.getT (.s (.int .i64 x.site)) p := by simp [gStamp, GV.getT]
theorem gStamp_set1 (x : Stamp) (v : Int) : (gStamp x).setT [1] (.s (.int .i64 v)) = gStamp { x with site := v } := by simp [gStamp, GV.setT, setT_nil]
theorem gStamp_zero : GV.c (.s (.int .i64 0)) (.c (.s (.int .i64 0)) .u) = gStamp zStamp := by simp only [gStamp, zStamp]
structure Op where
  stamp : Stamp
  kind : Int
  node : Int
  parent : Int
  name : ByteArray
  key : ByteArray
  value : ByteArray
def zOp : Op := ⟨zStamp, 0, 0, 0, ⟨#[]⟩, ⟨#[]⟩, ⟨#[]⟩⟩
def gOp (x : Op) : GV := .c (gStamp x.stamp) (.c (.s (.int .i64 x.kind)) (.c (.s (.int .i64 x.node)) (.c (.s (.int .i64 x.parent)) (.c (.s (.string x.name)) (.c (.s (.string x.key)) (.c (.s (.string x.value)) .u))))))
theorem gOp_ok (x : Op) : (gOp x).ok := ⟨gStamp_ok _, rfl, rfl, rfl, rfl, rfl, rfl, trivial⟩
theorem gOp_sz (x : Op) : (gOp x).sz = 8 := by simp [gOp, GV.sz, gVec_sz, gVec2_sz, gStamp_sz]
theorem gOp_fits (x : Op) : (gOp x).fits 8 true = true := by
  show (true && (gOp x).sz == 8) = true
  rw [gOp_sz]; rfl
theorem gOp_same (x y : Op) : (gOp x).same (gOp y) = True := eq_true ⟨(by rw [gStamp_same]; trivial), trivial, trivial, trivial, trivial, trivial, trivial, trivial⟩
theorem gOp_fld0 (x : Op) : (gOp x).fld 0 0 = true := by simp [gOp, GV.fld, GV.sz, gVec_sz, gVec2_sz, gStamp_sz]
theorem gOp_get0 (x : Op) (p : List Nat) : (gOp x).getT (0 :: p) = GV.getT (gStamp x.stamp) p := by simp [gOp, GV.getT]
theorem gOp_set0 (x : Op) (v : Stamp) : (gOp x).setT [0] (gStamp v) = gOp { x with stamp := v } := by simp [gOp, GV.setT, setT_nil]
theorem gOp_fld1 (x : Op) : (gOp x).fld 1 2 = true := by simp [gOp, GV.fld, GV.sz, gVec_sz, gVec2_sz, gStamp_sz]
theorem gOp_get1 (x : Op) (p : List Nat) : (gOp x).getT (1 :: p) = GV.getT (.s (.int .i64 x.kind)) p := by simp [gOp, GV.getT]
theorem gOp_set1 (x : Op) (v : Int) : (gOp x).setT [1] (.s (.int .i64 v)) = gOp { x with kind := v } := by simp [gOp, GV.setT, setT_nil]
theorem gOp_fld2 (x : Op) : (gOp x).fld 2 3 = true := by simp [gOp, GV.fld, GV.sz, gVec_sz, gVec2_sz, gStamp_sz]
theorem gOp_get2 (x : Op) (p : List Nat) : (gOp x).getT (2 :: p) = GV.getT (.s (.int .i64 x.node)) p := by simp [gOp, GV.getT]
theorem gOp_set2 (x : Op) (v : Int) : (gOp x).setT [2] (.s (.int .i64 v)) = gOp { x with node := v } := by simp [gOp, GV.setT, setT_nil]
theorem gOp_fld3 (x : Op) : (gOp x).fld 3 4 = true := by simp [gOp, GV.fld, GV.sz, gVec_sz, gVec2_sz, gStamp_sz]
theorem gOp_get3 (x : Op) (p : List Nat) : (gOp x).getT (3 :: p) = GV.getT (.s (.int .i64 x.parent)) p := by simp [gOp, GV.getT]
theorem gOp_set3 (x : Op) (v : Int) : (gOp x).setT [3] (.s (.int .i64 v)) = gOp { x with parent := v } := by simp [gOp, GV.setT, setT_nil]
theorem gOp_fld4 (x : Op) : (gOp x).fld 4 5 = true := by simp [gOp, GV.fld, GV.sz, gVec_sz, gVec2_sz, gStamp_sz]
theorem gOp_get4 (x : Op) (p : List Nat) : (gOp x).getT (4 :: p) = GV.getT (.s (.string x.name)) p := by simp [gOp, GV.getT]
theorem gOp_set4 (x : Op) (v : ByteArray) : (gOp x).setT [4] (.s (.string v)) = gOp { x with name := v } := by simp [gOp, GV.setT, setT_nil]
theorem gOp_fld5 (x : Op) : (gOp x).fld 5 6 = true := by simp [gOp, GV.fld, GV.sz, gVec_sz, gVec2_sz, gStamp_sz]
theorem gOp_get5 (x : Op) (p : List Nat) : (gOp x).getT (5 :: p) = GV.getT (.s (.string x.key)) p := by simp [gOp, GV.getT]
theorem gOp_fld6 (x : Op) : (gOp x).fld 6 7 = true := by simp [gOp, GV.fld, GV.sz, gVec_sz, gVec2_sz, gStamp_sz]
theorem gOp_get6 (x : Op) (p : List Nat) : (gOp x).getT (6 :: p) = GV.getT (.s (.string x.value)) p := by simp [gOp, GV.getT]
theorem gOp_zero : GV.c (gStamp zStamp) (.c (.s (.int .i64 0)) (.c (.s (.int .i64 0)) (.c (.s (.int .i64 0)) (.c (.s (.string ⟨#[]⟩)) (.c (.s (.string ⟨#[]⟩)) (.c (.s (.string ⟨#[]⟩)) .u)))))) = gOp zOp := by simp only [gOp, zOp]
theorem getD_gOp (l : List Op) (i : Nat) : (l.map gOp).getD i (gOp zOp) = gOp (l.getD i zOp) := by
  rw [List.getD_eq_getElem?_getD, List.getElem?_map, List.getD_eq_getElem?_getD]
  cases l[i]? <;> rfl

structure Place where
  parent : Int
  name : ByteArray
def zPlace : Place := ⟨0, ⟨#[]⟩⟩
def gPlace (x : Place) : GV := .c (.s (.int .i64 x.parent)) (.c (.s (.string x.name)) .u)
theorem gPlace_ok (x : Place) : (gPlace x).ok := ⟨rfl, rfl, trivial⟩
theorem gPlace_sz (x : Place) : (gPlace x).sz = 2 := by simp [gPlace, GV.sz, gVec_sz, gVec2_sz, gStamp_sz, gOp_sz]
theorem gPlace_fits (x : Place) : (gPlace x).fits 2 true = true := by
  show (true && (gPlace x).sz == 2) = true
  rw [gPlace_sz]; rfl
theorem gPlace_same (x y : Place) : (gPlace x).same (gPlace y) = True := eq_true ⟨trivial, trivial, trivial⟩
theorem gPlace_fld0 (x : Place) : (gPlace x).fld 0 0 = true := by simp [gPlace, GV.fld, GV.sz, gVec_sz, gVec2_sz, gStamp_sz, gOp_sz]
theorem gPlace_get0 (x : Place) (p : List Nat) : (gPlace x).getT (0 :: p) = GV.getT (.s (.int .i64 x.parent)) p := by simp [gPlace, GV.getT]
theorem gPlace_set0 (x : Place) (v : Int) : (gPlace x).setT [0] (.s (.int .i64 v)) = gPlace { x with parent := v } := by simp [gPlace, GV.setT, setT_nil]
theorem gPlace_get1 (x : Place) (p : List Nat) : (gPlace x).getT (1 :: p) = GV.getT (.s (.string x.name)) p := by simp [gPlace, GV.getT]
theorem gPlace_set1 (x : Place) (v : ByteArray) : (gPlace x).setT [1] (.s (.string v)) = gPlace { x with name := v } := by simp [gPlace, GV.setT, setT_nil]
theorem gPlace_zero : GV.c (.s (.int .i64 0)) (.c (.s (.string ⟨#[]⟩)) .u) = gPlace zPlace := by simp only [gPlace, zPlace]
structure Undo where
  of : Value
  ix : Int
  op : Op
  was : Place
  attr : ByteArray
def zUndo : Undo := ⟨(.pointer none), 0, zOp, zPlace, ⟨#[]⟩⟩
def gUndo (x : Undo) : GV := .c (.s x.of) (.c (.s (.int .i64 x.ix)) (.c (gOp x.op) (.c (gPlace x.was) (.c (.s (.string x.attr)) .u))))
theorem gUndo_ok (x : Undo) (hof : x.of.oneCell' = true) : (gUndo x).ok := ⟨(by assumption), rfl, gOp_ok _, gPlace_ok _, rfl, trivial⟩
theorem gUndo_sz (x : Undo) : (gUndo x).sz = 13 := by simp [gUndo, GV.sz, gVec_sz, gVec2_sz, gStamp_sz, gOp_sz, gPlace_sz]
theorem gUndo_fits (x : Undo) : (gUndo x).fits 13 true = true := by
  show (true && (gUndo x).sz == 13) = true
  rw [gUndo_sz]; rfl
theorem gUndo_same (x y : Undo) : (gUndo x).same (gUndo y) = True := eq_true ⟨trivial, trivial, (by rw [gOp_same]; trivial), (by rw [gPlace_same]; trivial), trivial, trivial⟩
theorem gUndo_fld0 (x : Undo) : (gUndo x).fld 0 0 = true := by simp [gUndo, GV.fld, GV.sz, gVec_sz, gVec2_sz, gStamp_sz, gOp_sz, gPlace_sz]
theorem gUndo_get0 (x : Undo) (p : List Nat) : (gUndo x).getT (0 :: p) = GV.getT (.s x.of) p := by simp [gUndo, GV.getT]
theorem gUndo_set0 (x : Undo) (v : Value) : (gUndo x).setT [0] (.s v) = gUndo { x with of := v } := by simp [gUndo, GV.setT, setT_nil]
theorem gUndo_fld1 (x : Undo) : (gUndo x).fld 1 1 = true := by simp [gUndo, GV.fld, GV.sz, gVec_sz, gVec2_sz, gStamp_sz, gOp_sz, gPlace_sz]
theorem gUndo_get1 (x : Undo) (p : List Nat) : (gUndo x).getT (1 :: p) = GV.getT (.s (.int .i64 x.ix)) p := by simp [gUndo, GV.getT]
theorem gUndo_set1 (x : Undo) (v : Int) : (gUndo x).setT [1] (.s (.int .i64 v)) = gUndo { x with ix := v } := by simp [gUndo, GV.setT, setT_nil]
theorem gUndo_fld2 (x : Undo) : (gUndo x).fld 2 2 = true := by simp [gUndo, GV.fld, GV.sz, gVec_sz, gVec2_sz, gStamp_sz, gOp_sz, gPlace_sz]
theorem gUndo_get2 (x : Undo) (p : List Nat) : (gUndo x).getT (2 :: p) = GV.getT (gOp x.op) p := by simp [gUndo, GV.getT]
theorem gUndo_set2 (x : Undo) (v : Op) : (gUndo x).setT [2] (gOp v) = gUndo { x with op := v } := by simp [gUndo, GV.setT, setT_nil]
theorem gUndo_fld3 (x : Undo) : (gUndo x).fld 3 10 = true := by simp [gUndo, GV.fld, GV.sz, gVec_sz, gVec2_sz, gStamp_sz, gOp_sz, gPlace_sz]
theorem gUndo_get3 (x : Undo) (p : List Nat) : (gUndo x).getT (3 :: p) = GV.getT (gPlace x.was) p := by simp [gUndo, GV.getT]
theorem gUndo_set3 (x : Undo) (v : Place) : (gUndo x).setT [3] (gPlace v) = gUndo { x with was := v } := by simp [gUndo, GV.setT, setT_nil]
theorem gUndo_fld4 (x : Undo) : (gUndo x).fld 4 12 = true := by simp [gUndo, GV.fld, GV.sz, gVec_sz, gVec2_sz, gStamp_sz, gOp_sz, gPlace_sz]
theorem gUndo_get4 (x : Undo) (p : List Nat) : (gUndo x).getT (4 :: p) = GV.getT (.s (.string x.attr)) p := by simp [gUndo, GV.getT]
theorem gUndo_set4 (x : Undo) (v : ByteArray) : (gUndo x).setT [4] (.s (.string v)) = gUndo { x with attr := v } := by simp [gUndo, GV.setT, setT_nil]
theorem gUndo_zero : GV.c (.s (.pointer none)) (.c (.s (.int .i64 0)) (.c (gOp zOp) (.c (gPlace zPlace) (.c (.s (.string ⟨#[]⟩)) .u)))) = gUndo zUndo := by simp only [gUndo, zUndo]
structure TreeNode where
  node : Int
  parent : Int
  name : ByteArray
  attrs : Value
def zTreeNode : TreeNode := ⟨0, 0, ⟨#[]⟩, (.slice none 0 0)⟩
def gTreeNode (x : TreeNode) : GV := .c (.s (.int .i64 x.node)) (.c (.s (.int .i64 x.parent)) (.c (.s (.string x.name)) (.c (.s x.attrs) .u)))
theorem gTreeNode_ok (x : TreeNode) (hattrs : x.attrs.oneCell' = true) : (gTreeNode x).ok := ⟨rfl, rfl, rfl, (by assumption), trivial⟩
theorem gTreeNode_sz (x : TreeNode) : (gTreeNode x).sz = 4 := by simp [gTreeNode, GV.sz, gVec_sz, gVec2_sz, gStamp_sz, gOp_sz, gPlace_sz, gUndo_sz]
theorem gTreeNode_fits (x : TreeNode) : (gTreeNode x).fits 4 true = true := by
  show (true && (gTreeNode x).sz == 4) = true
  rw [gTreeNode_sz]; rfl
theorem gTreeNode_same (x y : TreeNode) : (gTreeNode x).same (gTreeNode y) = True := eq_true ⟨trivial, trivial, trivial, trivial, trivial⟩
theorem gTreeNode_fld0 (x : TreeNode) : (gTreeNode x).fld 0 0 = true := by simp [gTreeNode, GV.fld, GV.sz, gVec_sz, gVec2_sz, gStamp_sz, gOp_sz, gPlace_sz, gUndo_sz]
theorem gTreeNode_get0 (x : TreeNode) (p : List Nat) : (gTreeNode x).getT (0 :: p) = GV.getT (.s (.int .i64 x.node)) p := by simp [gTreeNode, GV.getT]
theorem gTreeNode_set0 (x : TreeNode) (v : Int) : (gTreeNode x).setT [0] (.s (.int .i64 v)) = gTreeNode { x with node := v } := by simp [gTreeNode, GV.setT, setT_nil]
theorem gTreeNode_fld1 (x : TreeNode) : (gTreeNode x).fld 1 1 = true := by simp [gTreeNode, GV.fld, GV.sz, gVec_sz, gVec2_sz, gStamp_sz, gOp_sz, gPlace_sz, gUndo_sz]
theorem gTreeNode_get1 (x : TreeNode) (p : List Nat) : (gTreeNode x).getT (1 :: p) = GV.getT (.s (.int .i64 x.parent)) p := by simp [gTreeNode, GV.getT]
theorem gTreeNode_set1 (x : TreeNode) (v : Int) : (gTreeNode x).setT [1] (.s (.int .i64 v)) = gTreeNode { x with parent := v } := by simp [gTreeNode, GV.setT, setT_nil]
theorem gTreeNode_fld2 (x : TreeNode) : (gTreeNode x).fld 2 2 = true := by simp [gTreeNode, GV.fld, GV.sz, gVec_sz, gVec2_sz, gStamp_sz, gOp_sz, gPlace_sz, gUndo_sz]
theorem gTreeNode_get2 (x : TreeNode) (p : List Nat) : (gTreeNode x).getT (2 :: p) = GV.getT (.s (.string x.name)) p := by simp [gTreeNode, GV.getT]
theorem gTreeNode_set2 (x : TreeNode) (v : ByteArray) : (gTreeNode x).setT [2] (.s (.string v)) = gTreeNode { x with name := v } := by simp [gTreeNode, GV.setT, setT_nil]
theorem gTreeNode_fld3 (x : TreeNode) : (gTreeNode x).fld 3 3 = true := by simp [gTreeNode, GV.fld, GV.sz, gVec_sz, gVec2_sz, gStamp_sz, gOp_sz, gPlace_sz, gUndo_sz]
theorem gTreeNode_get3 (x : TreeNode) (p : List Nat) : (gTreeNode x).getT (3 :: p) = GV.getT (.s x.attrs) p := by simp [gTreeNode, GV.getT]
theorem gTreeNode_set3 (x : TreeNode) (v : Value) : (gTreeNode x).setT [3] (.s v) = gTreeNode { x with attrs := v } := by simp [gTreeNode, GV.setT, setT_nil]
theorem gTreeNode_zero : GV.c (.s (.int .i64 0)) (.c (.s (.int .i64 0)) (.c (.s (.string ⟨#[]⟩)) (.c (.s (.slice none 0 0)) .u))) = gTreeNode zTreeNode := by simp only [gTreeNode, zTreeNode]
theorem getD_gTreeNode (l : List TreeNode) (i : Nat) : (l.map gTreeNode).getD i (gTreeNode zTreeNode) = gTreeNode (l.getD i zTreeNode) := by
  rw [List.getD_eq_getElem?_getD, List.getElem?_map, List.getD_eq_getElem?_getD]
  cases l[i]? <;> rfl

structure Attr where
  key : ByteArray
  value : ByteArray
def zAttr : Attr := ⟨⟨#[]⟩, ⟨#[]⟩⟩
def gAttr (x : Attr) : GV := .c (.s (.string x.key)) (.c (.s (.string x.value)) .u)
theorem gAttr_ok (x : Attr) : (gAttr x).ok := ⟨rfl, rfl, trivial⟩
theorem gAttr_sz (x : Attr) : (gAttr x).sz = 2 := by simp [gAttr, GV.sz, gVec_sz, gVec2_sz, gStamp_sz, gOp_sz, gPlace_sz, gUndo_sz, gTreeNode_sz]
theorem gAttr_fits (x : Attr) : (gAttr x).fits 2 true = true := by
  show (true && (gAttr x).sz == 2) = true
  rw [gAttr_sz]; rfl
theorem gAttr_same (x y : Attr) : (gAttr x).same (gAttr y) = True := eq_true ⟨trivial, trivial, trivial⟩
theorem gAttr_fld0 (x : Attr) : (gAttr x).fld 0 0 = true := by simp [gAttr, GV.fld, GV.sz, gVec_sz, gVec2_sz, gStamp_sz, gOp_sz, gPlace_sz, gUndo_sz, gTreeNode_sz]
theorem gAttr_get0 (x : Attr) (p : List Nat) : (gAttr x).getT (0 :: p) = GV.getT (.s (.string x.key)) p := by simp [gAttr, GV.getT]
theorem gAttr_set0 (x : Attr) (v : ByteArray) : (gAttr x).setT [0] (.s (.string v)) = gAttr { x with key := v } := by simp [gAttr, GV.setT, setT_nil]
theorem gAttr_fld1 (x : Attr) : (gAttr x).fld 1 1 = true := by simp [gAttr, GV.fld, GV.sz, gVec_sz, gVec2_sz, gStamp_sz, gOp_sz, gPlace_sz, gUndo_sz, gTreeNode_sz]
theorem gAttr_get1 (x : Attr) (p : List Nat) : (gAttr x).getT (1 :: p) = GV.getT (.s (.string x.value)) p := by simp [gAttr, GV.getT]
theorem gAttr_set1 (x : Attr) (v : ByteArray) : (gAttr x).setT [1] (.s (.string v)) = gAttr { x with value := v } := by simp [gAttr, GV.setT, setT_nil]
theorem gAttr_zero : GV.c (.s (.string ⟨#[]⟩)) (.c (.s (.string ⟨#[]⟩)) .u) = gAttr zAttr := by simp only [gAttr, zAttr]
theorem getD_gAttr (l : List Attr) (i : Nat) : (l.map gAttr).getD i (gAttr zAttr) = gAttr (l.getD i zAttr) := by
  rw [List.getD_eq_getElem?_getD, List.getElem?_map, List.getD_eq_getElem?_getD]
  cases l[i]? <;> rfl

structure Child where
  name : ByteArray
  node : Int
def gChild (x : Child) : GV := .c (.s (.string x.name)) (.c (.s (.int .i64 x.node)) .u)
theorem gChild_sz (x : Child) : (gChild x).sz = 2 := by simp [gChild, GV.sz, gVec_sz, gVec2_sz, gStamp_sz, gOp_sz, gPlace_sz, gUndo_sz, gTreeNode_sz, gAttr_sz]
end Go.Proofs.YtmjiojflncffeaaGreat.Vc

/- An operation of a log, as a plain struct. -/
set_option linter.unusedVariables false
set_option linter.unusedSimpArgs false
namespace Go.Proofs.YtmjiojflncffeaaGreat.Vc
open Go

structure Done where
  op : Op
  taken : Bool
  undo : Undo
def zDone : Done := ⟨zOp, false, zUndo⟩
def gDone (x : Done) : GV := .c (gOp x.op) (.c (.s (.bool x.taken)) (.c (gUndo x.undo) .u))
theorem gDone_ok (x : Done) (hof : x.undo.of.oneCell' = true) : (gDone x).ok := ⟨gOp_ok _, rfl, gUndo_ok _ hof, trivial⟩
theorem gDone_sz (x : Done) : (gDone x).sz = 22 := by simp [gDone, GV.sz, gVec_sz, gVec2_sz, gStamp_sz, gOp_sz, gPlace_sz, gUndo_sz, gTreeNode_sz, gAttr_sz, gChild_sz]
theorem gDone_fits (x : Done) : (gDone x).fits 22 true = true := by
  show (true && (gDone x).sz == 22) = true
  rw [gDone_sz]; rfl
theorem gDone_same (x y : Done) : (gDone x).same (gDone y) = True := eq_true ⟨(by rw [gOp_same]; trivial), trivial, (by rw [gUndo_same]; trivial), trivial⟩
theorem gDone_fld0 (x : Done) : (gDone x).fld 0 0 = true := by simp [gDone, GV.fld, GV.sz, gVec_sz, gVec2_sz, gStamp_sz, gOp_sz, gPlace_sz, gUndo_sz, gTreeNode_sz, gAttr_sz, gChild_sz]
theorem gDone_get0 (x : Done) (p : List Nat) : (gDone x).getT (0 :: p) = GV.getT (gOp x.op) p := by simp [gDone, GV.getT]
theorem gDone_set0 (x : Done) (v : Op) : (gDone x).setT [0] (gOp v) = gDone { x with op := v } := by simp [gDone, GV.setT, setT_nil]
theorem gDone_fld1 (x : Done) : (gDone x).fld 1 8 = true := by simp [gDone, GV.fld, GV.sz, gVec_sz, gVec2_sz, gStamp_sz, gOp_sz, gPlace_sz, gUndo_sz, gTreeNode_sz, gAttr_sz, gChild_sz]
theorem gDone_get1 (x : Done) (p : List Nat) : (gDone x).getT (1 :: p) = GV.getT (.s (.bool x.taken)) p := by simp [gDone, GV.getT]
theorem gDone_set1 (x : Done) (v : Bool) : (gDone x).setT [1] (.s (.bool v)) = gDone { x with taken := v } := by simp [gDone, GV.setT, setT_nil]
theorem gDone_fld2 (x : Done) : (gDone x).fld 2 9 = true := by simp [gDone, GV.fld, GV.sz, gVec_sz, gVec2_sz, gStamp_sz, gOp_sz, gPlace_sz, gUndo_sz, gTreeNode_sz, gAttr_sz, gChild_sz]
theorem gDone_get2 (x : Done) (p : List Nat) : (gDone x).getT (2 :: p) = GV.getT (gUndo x.undo) p := by simp [gDone, GV.getT]
theorem gDone_set2 (x : Done) (v : Undo) : (gDone x).setT [2] (gUndo v) = gDone { x with undo := v } := by simp [gDone, GV.setT, setT_nil]
theorem gDone_zero : GV.c (gOp zOp) (.c (.s (.bool false)) (.c (gUndo zUndo) .u)) = gDone zDone := by simp only [gDone, zDone]
theorem getD_gDone (l : List Done) (i : Nat) : (l.map gDone).getD i (gDone zDone) = gDone (l.getD i zDone) := by
  rw [List.getD_eq_getElem?_getD, List.getElem?_map, List.getD_eq_getElem?_getD]
  cases l[i]? <;> rfl

end Go.Proofs.YtmjiojflncffeaaGreat.Vc

/- Operations, and what a log holds of them, are put in the order of their stamps. -/
set_option linter.unusedVariables false
set_option linter.unusedSimpArgs false
set_option maxRecDepth 100000
namespace Go.Proofs.YtmjiojflncffeaaGreat.Vc
open Go Go.Proofs Go.Sort Go.Shelf Go.Lib

/-- The order of stamps. -/
def ltK (a b : Int × Int) : Prop := a.1 < b.1 ∨ (a.1 = b.1 ∧ a.2 < b.2)
instance (a b : Int × Int) : Decidable (ltK a b) := inferInstanceAs (Decidable (_ ∨ _))
theorem cmpI_lt (a b : Int) : Lib.compareInt a b < 0 ↔ a < b := by
  unfold Lib.compareInt
  (repeat' split) <;> simp_all <;> omega
theorem cmpI_eq (a b : Int) : Lib.compareInt a b = 0 ↔ a = b := by
  unfold Lib.compareInt
  (repeat' split) <;> simp_all <;> omega
theorem cmpSt_lt (a b : Int × Int) : cmpSt a b < 0 ↔ ltK a b := by
  unfold cmpSt orV ltK
  have h1 := cmpI_lt a.1 b.1
  have h2 := cmpI_eq a.1 b.1
  have h3 := cmpI_lt a.2 b.2
  split <;> omega
theorem cmpSt_eq (a b : Int × Int) : cmpSt a b = 0 ↔ a = b := by
  obtain ⟨a1, a2⟩ := a
  obtain ⟨b1, b2⟩ := b
  unfold cmpSt orV
  have h2 := cmpI_eq a1 b1
  have h3 := cmpI_eq a2 b2
  simp only [Prod.mk.injEq]
  split <;> omega
theorem ltK_irrefl (a : Int × Int) : ¬ ltK a a := by unfold ltK; omega
theorem ltK_trans {a b c : Int × Int} (h1 : ltK a b) (h2 : ltK b c) : ltK a c := by unfold ltK at *; omega
theorem ltK_tri (a b : Int × Int) : ltK a b ∨ a = b ∨ ltK b a := by
  obtain ⟨a1, a2⟩ := a
  obtain ⟨b1, b2⟩ := b
  unfold ltK
  simp only [Prod.mk.injEq]
  omega
theorem swoK {α : Type} (f : α → Int × Int) : SWO (ltOf fun x y => cmpSt (f x) (f y)) := by
  have e : ∀ x y, ltOf (fun x y => cmpSt (f x) (f y)) x y = decide (ltK (f x) (f y)) := fun x y => by
    unfold ltOf
    rw [decide_eq_decide]
    exact cmpSt_lt _ _
  refine ⟨fun x => ?_, fun x y z h1 h2 => ?_, fun x y z h1 h2 => ?_⟩
  · rw [e]; exact decide_eq_false (ltK_irrefl _)
  · rw [e, decide_eq_true_iff] at *; exact ltK_trans h1 h2
  · rw [e, decide_eq_false_iff_not] at *
    intro h
    rcases ltK_tri (f y) (f z) with h3 | h3 | h3
    · exact h2 h3
    · rw [← h3] at h; exact h1 h
    · exact h1 (ltK_trans h h3)
def Stamp.k (s : Stamp) : Int × Int := (s.time, s.site)
theorem Stamp.k_inj {a b : Stamp} (h : a.k = b.k) : a = b := by
  cases a; cases b
  simpa [Stamp.k] using h
def Op.k (x : Op) : Int × Int := x.stamp.k
def Done.k (x : Done) : Int × Int := x.op.k
/-- In order, each stamp once. -/
def Rising (l : List (Int × Int)) : Prop := l.Pairwise ltK
theorem Rising.uniq {α : Type} {f : α → Int × Int} {a b : List α} (h : a.Perm b) (ha : Rising (a.map f)) (hb : Rising (b.map f)) : a = b := by
  refine List.Perm.eq_of_pairwise (le := fun x y => ltK (f x) (f y)) (fun x y _ _ h1 h2 => absurd (ltK_trans h1 h2) (ltK_irrefl _)) ?_ ?_ h
  · exact List.pairwise_map.1 ha
  · exact List.pairwise_map.1 hb
theorem rising_of {α : Type} (f : α → Int × Int) {cs cs' : List α} (hp : cs'.Perm cs) (hw : cs'.Pairwise (fun x y => ltOf (fun x y => cmpSt (f x) (f y)) y x = false)) (hn : (cs.map f).Nodup) : Rising (cs'.map f) := by
  have hn' : (cs'.map f).Nodup := (hp.map f).nodup_iff.2 hn
  rw [Rising, List.pairwise_map]
  rw [List.Nodup, List.pairwise_map] at hn'
  refine (hw.and hn').imp fun {x y} ⟨h1, h2⟩ => ?_
  rw [ltOf, decide_eq_false_iff_not, cmpSt_lt] at h1
  rcases ltK_tri (f x) (f y) with h | h | h
  · exact h
  · exact absurd h h2
  · exact absurd h h1

instance : Inhabited Op := ⟨zOp⟩
theorem sortO_spec (w : World) (v : Value) (cs : List Op) (m : PH) (hS : SlO m v 26 8 (cs.map gOp)) (hl : cs.length ≤ 1099511627776) (hn : (cs.map Op.k).Nodup) :
    Spec Tryz.prog 38 [v, .func (.func 39) #[] #[]] m w fun rs m' => rs = [] ∧ ∃ cs' : List Op, cs'.Perm cs ∧ Rising (cs'.map Op.k) ∧ SlO m' v 26 8 (cs'.map gOp) :=
  (sortF_spec (cf := fun x y => cmpSt (Op.k x) (Op.k y)) Tryz.sortO Tryz.isAgg26 Tryz.sizeOf26 gOp_ok (fun x => GV.flat_one _ (gOp_ok x)) gOp_sz (by omega) (swoK _) (gf := 39)
    (enters_of Tryz.func39 (by kernel_rfl) rfl) (fun _ _ _ _ _ _ _ _ x y => closure1 x.stamp.time x.stamp.site x.kind x.node x.parent y.stamp.time y.stamp.site y.kind y.node y.parent x.name x.key x.value y.name y.key y.value _) w v cs m hS hl).mono
    fun rs m' ⟨h1, cs', h2, h3, h4⟩ => ⟨h1, cs', h2, rising_of Op.k h2 h3 hn, h4⟩

/-- What a log holds, its undo a plain pointer. -/
abbrev DoneS := {x : Done // x.undo.of.oneCell' = true}
instance : Inhabited DoneS := ⟨⟨zDone, rfl⟩⟩
theorem sortD_spec (w : World) (v : Value) (ds : List Done) (hof : ∀ d ∈ ds, d.undo.of.oneCell' = true) (m : PH) (hS : SlO m v 97 22 (ds.map gDone)) (hl : ds.length ≤ 1099511627776) (hn : (ds.map Done.k).Nodup) :
    Spec Tryz.prog 45 [v, .func (.func 46) #[] #[]] m w fun rs m' => rs = [] ∧ ∃ ds' : List Done, ds'.Perm ds ∧ Rising (ds'.map Done.k) ∧ SlO m' v 97 22 (ds'.map gDone) := by
  have hv : (ds.attachWith (fun x : Done => x.undo.of.oneCell' = true) hof).map Subtype.val = ds := List.attachWith_map_subtype_val _
  have hS' : SlO m v 97 22 ((ds.attachWith (fun x : Done => x.undo.of.oneCell' = true) hof).map fun x => gDone x.1) := by
    rw [show (fun x : DoneS => gDone x.1) = gDone ∘ Subtype.val from rfl, ← List.map_map, hv]
    exact hS
  have hn' : ((ds.attachWith (fun x : Done => x.undo.of.oneCell' = true) hof).map fun x => Done.k x.1).Nodup := by
    rw [show (fun x : DoneS => Done.k x.1) = Done.k ∘ Subtype.val from rfl, ← List.map_map, hv]
    exact hn
  refine (sortF_spec (α := DoneS) (g := fun x => gDone x.1) (cf := fun x y => cmpSt (Done.k x.1) (Done.k y.1)) Tryz.sortD Tryz.isAgg97 Tryz.sizeOf97 (fun x => gDone_ok x.1 x.2) (fun x => GV.flat_one _ (gDone_ok x.1 x.2)) (fun x => gDone_sz x.1) (by omega) (swoK _) (gf := 46)
    (enters_of Tryz.func46 (by kernel_rfl) rfl) (fun _ _ _ _ _ _ _ _ x y => ?_) w v _ m hS' (by simpa using hl)).mono ?_
  · exact closure2 x.1.op.stamp.time x.1.op.stamp.site x.1.op.kind x.1.op.node x.1.op.parent y.1.op.stamp.time y.1.op.stamp.site y.1.op.kind y.1.op.node y.1.op.parent x.1.op.name x.1.op.key x.1.op.value y.1.op.name y.1.op.key y.1.op.value x.1.taken y.1.taken x.1.undo.of y.1.undo.of x.1.undo.ix y.1.undo.ix
      x.1.undo.op.stamp.time x.1.undo.op.stamp.site x.1.undo.op.kind x.1.undo.op.node x.1.undo.op.parent y.1.undo.op.stamp.time y.1.undo.op.stamp.site y.1.undo.op.kind y.1.undo.op.node y.1.undo.op.parent x.1.undo.op.name x.1.undo.op.key x.1.undo.op.value y.1.undo.op.name y.1.undo.op.key y.1.undo.op.value x.1.undo.was.parent y.1.undo.was.parent x.1.undo.was.name y.1.undo.was.name x.1.undo.attr y.1.undo.attr _
  · rintro rs m' ⟨h1, cs', h2, h3, h4⟩
    refine ⟨h1, cs'.map Subtype.val, by rw [← hv]; exact h2.map _, ?_, ?_⟩
    · rw [List.map_map]
      exact rising_of (fun x : DoneS => Done.k x.1) h2 h3 hn'
    · rw [List.map_map]; exact h4
end Go.Proofs.YtmjiojflncffeaaGreat.Vc

/- The code of some functions of the program, its types resolved: printed by a program of this claim. -/
set_option linter.unusedVariables false
set_option maxRecDepth 100000
namespace Go.Proofs.YtmjiojflncffeaaGreat.Vc
open Go Go.Proofs

abbrev f_stamp_Check : Nat := 84
def c_stamp_Check : Cd :=
 (.seq (.rg [⟨none, [(some 1, .box 24 (.t 0)), (some 2, .mv (.c (.bool false)))]⟩] [1])
 (.seq (.rg [⟨none, [(some 3, .fldA (.t 1) 0 0), (some 4, .ld (.t 3) 1 false), (some 5, .bin .geq (.t 4) (.c (.int .i64 1))), (some 6, .mv (.t 5))]⟩, ⟨some (6, true), [(some 7, .fldA (.t 1) 0 0), (some 8, .ld (.t 7) 1 false), (some 9, .bin .leq (.t 8) (.c (.int .i64 1099511627776)))]⟩, ⟨none, [(some 10, .pick (.t 6) (.t 9) (.c (.bool false))), (some 11, .mv (.t 10))]⟩, ⟨some (11, true), [(some 12, .fldA (.t 1) 1 1), (some 13, .ld (.t 12) 1 false), (some 14, .bin .geq (.t 13) (.c (.int .i64 0)))]⟩, ⟨none, [(some 15, .pick (.t 11) (.t 14) (.c (.bool false))), (some 16, .mv (.t 15))]⟩, ⟨some (16, true), [(some 17, .fldA (.t 1) 1 1), (some 18, .ld (.t 17) 1 false), (some 19, .bin .lss (.t 18) (.c (.int .i64 8)))]⟩, ⟨none, [(some 20, .pick (.t 16) (.t 19) (.c (.bool false))), (some 2, .mv (.t 20))]⟩] [2])
 .ret))
theorem k_stamp_Check : Ok Tryz.prog 84 c_stamp_Check 21 [] [.tmp 2] := Ok.mk' Tryz.func84 (by kernel_rfl) (by kernel_rfl) (by kernel_rfl)

abbrev f_stamp_Node : Nat := 85
def c_stamp_Node : Cd :=
 (.seq (.rg [⟨none, [(some 1, .box 24 (.t 0)), (some 2, .mv (.c (.int .i64 0)))]⟩] [1])
 (.seq (.seq (.rg [⟨none, [(some 3, .ld (.t 1) 2 true), (some 4, .call 84 [(.t 3)]), (some 5, .un .not (.t 4))]⟩] [1, 5])
 (.ite (.t 5)
 (.seq (.rg [⟨none, [(some 2, .mv (.c (.int .i64 0)))]⟩] [2])
 .ret)
 .skip))
 (.seq (.rg [⟨none, [(some 6, .fldA (.t 1) 0 0), (some 7, .ld (.t 6) 1 false), (some 8, .bin .mul (.t 7) (.c (.int .i64 8))), (some 9, .bin .add (.c (.int .i64 16)) (.t 8)), (some 10, .fldA (.t 1) 1 1), (some 11, .ld (.t 10) 1 false), (some 12, .bin .add (.t 9) (.t 11)), (some 2, .mv (.t 12))]⟩] [2])
 .ret)))
theorem k_stamp_Node : Ok Tryz.prog 85 c_stamp_Node 13 [] [.tmp 2] := Ok.mk' Tryz.func85 (by kernel_rfl) (by kernel_rfl) (by kernel_rfl)

abbrev f_stamp_Of : Nat := 129
def c_stamp_Of : Cd :=
 (.seq (.rg [⟨none, [(some 2, .new 24 (.c (.s (.int .i64 0)) (.c (.s (.int .i64 0)) .u))), (some 3, .mv (.c (.bool false)))]⟩] [0, 2])
 (.seq (.seq (.rg [⟨none, [(some 6, .mv (.t 0)), (some 7, .bin .lss (.t 6) (.c (.int .i64 16)))]⟩] [0, 2, 7])
 (.ite (.t 7)
 (.seq (.rg [⟨none, [(some 8, .bld (.c (.s (.int .i64 0)) (.c (.s (.int .i64 0)) .u)) []), (none, .st (.t 2) (.t 8) 2), (some 3, .mv (.c (.bool false)))]⟩] [2, 3])
 .ret)
 .skip))
 (.seq (.rg [⟨none, [(some 9, .mv (.t 0)), (some 10, .bin .sub (.t 9) (.c (.int .i64 16))), (some 4, .mv (.t 10))]⟩] [2, 4])
 (.seq (.rg [⟨none, [(some 11, .mv (.t 4)), (some 12, .bin .quo (.t 11) (.c (.int .i64 8))), (some 13, .mv (.t 4)), (some 14, .bin .rem (.t 13) (.c (.int .i64 8))), (some 15, .bld (.c (.s (.int .i64 0)) (.c (.s (.int .i64 0)) .u)) [(0, (.t 12)), (1, (.t 14))]), (some 5, .new 24 (.c (.s (.int .i64 0)) (.c (.s (.int .i64 0)) .u))), (none, .st (.t 5) (.t 15) 2)]⟩] [2, 5])
 (.seq (.seq (.rg [⟨none, [(some 16, .ld (.t 5) 2 true), (some 17, .call 84 [(.t 16)]), (some 18, .un .not (.t 17))]⟩] [2, 5, 18])
 (.ite (.t 18)
 (.seq (.rg [⟨none, [(some 19, .bld (.c (.s (.int .i64 0)) (.c (.s (.int .i64 0)) .u)) []), (none, .st (.t 2) (.t 19) 2), (some 3, .mv (.c (.bool false)))]⟩] [2, 3])
 .ret)
 .skip))
 (.seq (.rg [⟨none, [(some 20, .ld (.t 5) 2 true), (none, .st (.t 2) (.t 20) 2), (some 3, .mv (.c (.bool true)))]⟩] [2, 3])
 .ret))))))
theorem k_stamp_Of : Ok Tryz.prog 129 c_stamp_Of 21 [] [.cell 2 2 true, .tmp 3] := Ok.mk' Tryz.func129 (by kernel_rfl) (by kernel_rfl) (by kernel_rfl)

abbrev f_stamp_made : Nat := 87
def c_stamp_made : Cd :=
 (.seq (.rg [⟨none, [(some 2, .mv (.c (.bool false)))]⟩] [0])
 (.seq (.rg [⟨none, [(some 6, .mv (.t 0)), (some 7, .call 129 [(.t 6)]), (some 5, .mv (.t 7)), (some 8, .ext (.t 5) 0), (some 9, .ext (.t 5) 1), (some 3, .new 24 (.c (.s (.int .i64 0)) (.c (.s (.int .i64 0)) .u))), (none, .st (.t 3) (.t 8) 2), (some 4, .mv (.t 9))]⟩] [4])
 (.seq (.rg [⟨none, [(some 10, .mv (.t 4)), (some 2, .mv (.t 10))]⟩] [2])
 .ret)))
theorem k_stamp_made : Ok Tryz.prog 87 c_stamp_made 11 [] [.tmp 2] := Ok.mk' Tryz.func87 (by kernel_rfl) (by kernel_rfl) (by kernel_rfl)

abbrev f_stamp_top : Nat := 88
def c_stamp_top : Cd :=
 (.seq (.rg [⟨none, [(some 2, .mv (.c (.bool false)))]⟩] [0])
 (.seq (.rg [⟨none, [(some 3, .mv (.t 0)), (some 4, .bin .eql (.t 3) (.c (.int .i64 1))), (some 5, .mv (.t 4))]⟩, ⟨some (5, false), [(some 6, .mv (.t 0)), (some 7, .bin .eql (.t 6) (.c (.int .i64 2)))]⟩, ⟨none, [(some 8, .pick (.t 5) (.c (.bool true)) (.t 7)), (some 2, .mv (.t 8))]⟩] [2])
 .ret))
theorem k_stamp_top : Ok Tryz.prog 88 c_stamp_top 9 [] [.tmp 2] := Ok.mk' Tryz.func88 (by kernel_rfl) (by kernel_rfl) (by kernel_rfl)

abbrev f_stamp_place : Nat := 86
def c_stamp_place : Cd :=
 (.seq (.rg [⟨none, [(some 1, .box 26 (.t 0)), (some 2, .mv (.c (.int .i64 0)))]⟩] [1])
 (.seq (.block 0 (.seq (.rg [⟨none, [(some 4, .fldA (.t 1) 3 4), (some 5, .ld (.t 4) 1 false), (some 6, .call 88 [(.t 5)]), (some 7, .un .not (.t 6)), (some 8, .mv (.t 7))]⟩, ⟨some (8, true), [(some 9, .fldA (.t 1) 3 4), (some 10, .ld (.t 9) 1 false), (some 11, .call 87 [(.t 10)]), (some 12, .un .not (.t 11))]⟩, ⟨none, [(some 13, .pick (.t 8) (.t 12) (.c (.bool false))), (some 3, .mv (.t 13))]⟩] [1, 3])
 (.ite (.t 3)
 (.seq (.rg [⟨none, [(some 2, .mv (.c (.int .i64 1)))]⟩] [2])
 .ret)
 (.seq (.rg [⟨none, [(some 15, .fldA (.t 1) 4 5), (some 16, .ld (.t 15) 1 false), (some 17, .lenS (.t 16)), (some 18, .bin .gtr (.t 17) (.c (.int .i64 255))), (some 14, .mv (.t 18))]⟩] [1, 14])
 (.ite (.t 14)
 (.seq (.rg [⟨none, [(some 2, .mv (.c (.int .i64 3)))]⟩] [2])
 .ret)
 (.seq (.rg [⟨none, [(some 20, .fldA (.t 1) 4 5), (some 21, .ld (.t 20) 1 false), (some 22, .bin .eql (.t 21) (.c (.string ⟨#[]⟩))), (some 23, .mv (.t 22))]⟩, ⟨some (23, false), [(some 24, .fldA (.t 1) 4 5), (some 25, .ld (.t 24) 1 false), (some 26, .bin .eql (.t 25) (.c (.string ⟨#[46]⟩)))]⟩, ⟨none, [(some 27, .pick (.t 23) (.c (.bool true)) (.t 26)), (some 28, .mv (.t 27))]⟩, ⟨some (28, false), [(some 29, .fldA (.t 1) 4 5), (some 30, .ld (.t 29) 1 false), (some 31, .bin .eql (.t 30) (.c (.string ⟨#[46, 46]⟩)))]⟩, ⟨none, [(some 32, .pick (.t 28) (.c (.bool true)) (.t 31)), (some 33, .mv (.t 32))]⟩, ⟨some (33, false), [(some 34, .fldA (.t 1) 4 5), (some 35, .ld (.t 34) 1 false), (some 36, .call 128 [(.t 35), (.c (.string ⟨#[47]⟩))])]⟩, ⟨none, [(some 37, .pick (.t 33) (.c (.bool true)) (.t 36)), (some 38, .mv (.t 37))]⟩, ⟨some (38, false), [(some 39, .fldA (.t 1) 5 6), (some 40, .ld (.t 39) 1 false), (some 41, .bin .neq (.t 40) (.c (.string ⟨#[]⟩)))]⟩, ⟨none, [(some 42, .pick (.t 38) (.c (.bool true)) (.t 41)), (some 43, .mv (.t 42))]⟩, ⟨some (43, false), [(some 44, .fldA (.t 1) 6 7), (some 45, .ld (.t 44) 1 false), (some 46, .bin .neq (.t 45) (.c (.string ⟨#[]⟩)))]⟩, ⟨none, [(some 47, .pick (.t 43) (.c (.bool true)) (.t 46)), (some 19, .mv (.t 47))]⟩] [19])
 (.ite (.t 19)
 (.seq (.rg [⟨none, [(some 2, .mv (.c (.int .i64 1)))]⟩] [2])
 .ret)
 .skip)))))))
 (.seq (.rg [⟨none, [(some 2, .mv (.c (.int .i64 0)))]⟩] [2])
 .ret)))
theorem k_stamp_place : Ok Tryz.prog 86 c_stamp_place 48 [] [.tmp 2] := Ok.mk' Tryz.func86 (by kernel_rfl) (by kernel_rfl) (by kernel_rfl)

abbrev f_stamp_CheckOp : Nat := 52
def c_stamp_CheckOp : Cd :=
 (.seq (.rg [⟨none, [(some 1, .box 26 (.t 0)), (some 2, .mv (.c (.int .i64 0)))]⟩] [1])
 (.seq (.seq (.rgq [⟨none, [(some 4, .fldA (.t 1) 0 0), (some 5, .ld (.t 4) 2 true), (some 6, .call 84 [(.t 5)]), (some 7, .un .not (.t 6)), (some 8, .mv (.t 7))]⟩, ⟨some (8, false), [(some 9, .fldA (.t 1) 1 2), (some 10, .ld (.t 9) 1 false), (some 11, .bin .lss (.t 10) (.c (.int .i64 1)))]⟩, ⟨none, [(some 12, .pick (.t 8) (.c (.bool true)) (.t 11)), (some 13, .mv (.t 12))]⟩, ⟨some (13, false), [(some 14, .fldA (.t 1) 1 2), (some 15, .ld (.t 14) 1 false), (some 16, .bin .gtr (.t 15) (.c (.int .i64 3)))]⟩, ⟨none, [(some 17, .pick (.t 13) (.c (.bool true)) (.t 16)), (some 18, .mv (.t 17))]⟩, ⟨some (18, false), [(some 19, .fldA (.t 1) 1 2), (some 20, .ld (.t 19) 1 false), (some 21, .bin .eql (.t 20) (.c (.int .i64 1))), (some 22, .mv (.t 21))]⟩, ⟨some (22, true), [(some 23, .fldA (.t 1) 2 3), (some 24, .ld (.t 23) 1 false), (some 25, .fldA (.t 1) 0 0), (some 26, .ld (.t 25) 2 true), (some 27, .call 85 [(.t 26)])]⟩] [⟨some (22, true), [(some 28, .bin .neq (.t 24) (.t 27))]⟩, ⟨some (18, false), [(some 29, .pick (.t 22) (.t 28) (.c (.bool false)))]⟩, ⟨none, [(some 30, .pick (.t 18) (.c (.bool true)) (.t 29))]⟩] [1, 30])
 (.ite (.t 30)
 (.seq (.rg [⟨none, [(some 2, .mv (.c (.int .i64 1)))]⟩] [2])
 .ret)
 .skip))
 (.seq (.seq (.rg [⟨none, [(some 31, .fldA (.t 1) 1 2), (some 32, .ld (.t 31) 1 false), (some 33, .bin .neq (.t 32) (.c (.int .i64 3)))]⟩] [1, 33])
 (.ite (.t 33)
 (.seq (.rg [⟨none, [(some 34, .ld (.t 1) 8 true), (some 35, .call 86 [(.t 34)]), (some 3, .mv (.t 35))]⟩] [1, 3])
 (.seq (.rg [⟨none, [(some 36, .mv (.t 3)), (some 37, .bin .neq (.t 36) (.c (.int .i64 0)))]⟩] [1, 3, 37])
 (.ite (.t 37)
 (.seq (.rg [⟨none, [(some 38, .mv (.t 3)), (some 2, .mv (.t 38))]⟩] [2])
 .ret)
 .skip)))
 .skip))
 (.seq (.seq (.rg [⟨none, [(some 39, .fldA (.t 1) 1 2), (some 40, .ld (.t 39) 1 false)]⟩] [1, 40])
 (.block 0 (.seq (.rg [⟨none, [(some 42, .bin .eql (.t 40) (.c (.int .i64 2))), (some 41, .mv (.t 42))]⟩] [1, 40, 41])
 (.ite (.t 41)
 (.seq (.rg [⟨none, [(some 43, .fldA (.t 1) 2 3), (some 44, .ld (.t 43) 1 false), (some 45, .call 87 [(.t 44)]), (some 46, .un .not (.t 45))]⟩] [46])
 (.ite (.t 46)
 (.seq (.rg [⟨none, [(some 2, .mv (.c (.int .i64 1)))]⟩] [2])
 .ret)
 .skip))
 (.seq (.rg [⟨none, [(some 48, .bin .eql (.t 40) (.c (.int .i64 3))), (some 47, .mv (.t 48))]⟩] [1, 47])
 (.ite (.t 47)
 (.block 1 (.seq (.rg [⟨none, [(some 50, .fldA (.t 1) 2 3), (some 51, .ld (.t 50) 1 false), (some 52, .call 87 [(.t 51)]), (some 53, .un .not (.t 52)), (some 54, .mv (.t 53))]⟩, ⟨some (54, true), [(some 55, .fldA (.t 1) 2 3), (some 56, .ld (.t 55) 1 false), (some 57, .call 88 [(.t 56)]), (some 58, .un .not (.t 57))]⟩, ⟨none, [(some 59, .pick (.t 54) (.t 58) (.c (.bool false))), (some 49, .mv (.t 59))]⟩] [1, 49])
 (.ite (.t 49)
 (.seq (.rg [⟨none, [(some 2, .mv (.c (.int .i64 1)))]⟩] [2])
 .ret)
 (.seq (.rg [⟨none, [(some 61, .fldA (.t 1) 5 6), (some 62, .ld (.t 61) 1 false), (some 63, .lenS (.t 62)), (some 64, .bin .gtr (.t 63) (.c (.int .i64 255))), (some 65, .mv (.t 64))]⟩, ⟨some (65, false), [(some 66, .fldA (.t 1) 6 7), (some 67, .ld (.t 66) 1 false), (some 68, .lenS (.t 67)), (some 69, .bin .gtr (.t 68) (.c (.int .i64 255)))]⟩, ⟨none, [(some 70, .pick (.t 65) (.c (.bool true)) (.t 69)), (some 60, .mv (.t 70))]⟩] [1, 60])
 (.ite (.t 60)
 (.seq (.rg [⟨none, [(some 2, .mv (.c (.int .i64 3)))]⟩] [2])
 .ret)
 (.seq (.rg [⟨none, [(some 72, .fldA (.t 1) 5 6), (some 73, .ld (.t 72) 1 false), (some 74, .bin .eql (.t 73) (.c (.string ⟨#[]⟩))), (some 75, .mv (.t 74))]⟩, ⟨some (75, false), [(some 76, .fldA (.t 1) 3 4), (some 77, .ld (.t 76) 1 false), (some 78, .bin .neq (.t 77) (.c (.int .i64 0)))]⟩, ⟨none, [(some 79, .pick (.t 75) (.c (.bool true)) (.t 78)), (some 80, .mv (.t 79))]⟩, ⟨some (80, false), [(some 81, .fldA (.t 1) 4 5), (some 82, .ld (.t 81) 1 false), (some 83, .bin .neq (.t 82) (.c (.string ⟨#[]⟩)))]⟩, ⟨none, [(some 84, .pick (.t 80) (.c (.bool true)) (.t 83)), (some 71, .mv (.t 84))]⟩] [71])
 (.ite (.t 71)
 (.seq (.rg [⟨none, [(some 2, .mv (.c (.int .i64 1)))]⟩] [2])
 .ret)
 .skip)))))))
 .skip))))))
 (.seq (.rg [⟨none, [(some 2, .mv (.c (.int .i64 0)))]⟩] [2])
 .ret)))))
theorem k_stamp_CheckOp : Ok Tryz.prog 52 c_stamp_CheckOp 85 [(1, 24)] [.tmp 2] := Ok.mk' Tryz.func52 (by kernel_rfl) (by kernel_rfl) (by kernel_rfl)

end Go.Proofs.YtmjiojflncffeaaGreat.Vc

/- When two plain values of a type are the same. -/
set_option linter.unusedVariables false
set_option linter.unusedSimpArgs false
namespace Go.Proofs.YtmjiojflncffeaaGreat.Vc
open Go

def eqScB : Value → Value → Bool
  | .int _ a, .int _ b => a == b
  | .bool a, .bool b => a == b
  | .string a, .string b => decide (a = b)
  | _, _ => false

/-- Are two trees of one form the same? -/
def eqGV : GV → GV → Bool
  | .s a, .s b => eqScB a b
  | .u, .u => true
  | .c h t, .c h' t' => eqGV h h' && eqGV t t'
  | .ar n _ f, .ar _ _ g => (List.range n).all fun j => eqGV (f j) (g j)
  | _, _ => false

def kinV : Value → Value → Prop
  | .int k _, .int k' _ => k = k'
  | .bool _, .bool _ => True
  | .string _, .string _ => True
  | _, _ => False
/-- Of one form, and of the same kinds. -/
def kin : GV → GV → Prop
  | .s a, .s b => kinV a b
  | .u, .u => True
  | .c h t, .c h' t' => kin h h' ∧ kin t t'
  | .ar n e f, .ar n' e' g => n = n' ∧ e = e' ∧ ∀ j, j < n → kin (f j) (g j)
  | _, _ => False

theorem kin_same : ∀ (x y : GV), kin x y → GV.same x y
  | .s _, .s _, _ => trivial
  | .u, .u, _ => trivial
  | .c h t, .c h' t', k => ⟨kin_same h h' k.1, kin_same t t' k.2⟩
  | .ar _ _ f, .ar _ _ g, k => ⟨k.1, k.2.1, fun j hj => kin_same (f j) (g j) (k.2.2 j hj)⟩
  | .s _, .u, k | .s _, .c _ _, k | .s _, .ar _ _ _, k | .u, .s _, k | .u, .c _ _, k | .u, .ar _ _ _, k | .c _ _, .s _, k | .c _ _, .u, k | .c _ _, .ar _ _ _, k | .ar _ _ _, .s _, k | .ar _ _ _, .u, k | .ar _ _ _, .c _ _, k => k.elim

def chainB : Nat → GV → Bool
  | 0, .u => true
  | n + 1, .c _ t => chainB n t
  | _, _ => false

/-- Does a type's own tree stand so? -/
def eqShape (P : Program) : Nat → TypeId → GV → Bool
  | 0, _, _ => false
  | d + 1, t, z => match P.underlying t, z with
    | some (.int _), .s (.int _ _) => true
    | some .bool, .s (.bool _) => true
    | some .string, .s (.string _) => true
    | some (.array n e), .ar n' k f => n == n' && (match P.underlying e, P.info? e with
        | some dd, some i => k == i.size && (List.range n).all fun j => (f j).fits i.size (agD dd) && eqShape P d e (f j)
        | _, _ => false)
    | some (.struct fs), z => chainB fs.size z && !P.stoodInHeld t && (List.range fs.size).all fun i => match fs[i]? with
        | some f => f.name != "_" && (match P.underlying f.type, P.info? f.type with
          | some dd, some j => (z.get [i]).isSome && z.offs [i] == f.offset && (z.getT [i]).fits j.size (agD dd) && eqShape P d f.type (z.getT [i])
          | _, _ => false)
        | none => false
    | _, _ => false

theorem kin_get : ∀ (x z : GV) (p : List Nat), kin x z → ∀ y, z.get p = some y → ∃ uu, x.get p = some uu ∧ kin uu y ∧ x.offs p = z.offs p := by
  intro x z p hk y hy
  obtain ⟨e1, uu, e2, e3⟩ := GV.same_get z x p y (GV.same_symm _ _ (kin_same _ _ hk)) hy
  refine ⟨uu, e2, ?_, e1.symm⟩
  clear e1 e3
  induction p generalizing x z with
  | nil =>
    have h1 : x.get [] = some x := by cases x <;> rfl
    have h2 : z.get [] = some z := by cases z <;> rfl
    rw [h1] at e2; rw [h2] at hy
    simp at e2 hy; subst e2; subst hy
    exact hk
  | cons i p ih =>
    induction z generalizing x i with
    | s v => simp [GV.get] at hy
    | u => simp [GV.get] at hy
    | c h t ihh iht =>
      cases x with
      | c h' t' =>
        cases i with
        | zero => exact ih h' h hk.1 (by simpa [GV.get] using hy) (by simpa [GV.get] using e2)
        | succ i => exact iht (x := t') (i := i) hk.2 (by simpa [GV.get] using hy) (by simpa [GV.get] using e2)
      | _ => exact hk.elim
    | ar n e f ihf =>
      cases x with
      | ar n' e' g =>
        simp only [GV.get] at hy e2
        split at hy
        · rename_i hi
          split at e2
          · exact ih (g i) (f i) (hk.2.2 i (by rw [hk.1]; exact hi)) hy e2
          · cases e2
        · cases hy
      | _ => exact hk.elim

theorem kin_fits {x z : GV} (h : kin x z) (n : Nat) (b : Bool) (hf : z.fits n b = true) : x.fits n b = true := by
  have hs := GV.same_sz _ _ (kin_same _ _ h)
  cases x <;> cases z <;> first | exact h.elim | skip
  · exact hf
  · simpa [GV.fits, GV.sz] using hf
  · simp only [GV.fits] at hf ⊢; rw [hs]; exact hf
  · simp only [GV.fits] at hf ⊢; rw [hs]; exact hf

theorem eqGV_chain : ∀ (n : Nat) (x y z : GV), chainB n z = true → kin x z → kin y z → eqGV x y = (List.range n).all fun i => eqGV (x.getT [i]) (y.getT [i])
  | 0, x, y, .u, _, hx, hy => by
    cases x <;> first | exact hx.elim | skip
    cases y <;> first | exact hy.elim | skip
    rfl
  | n + 1, x, y, .c hz tz, hc, hx, hy => by
    cases x <;> first | exact hx.elim | skip
    cases y <;> first | exact hy.elim | skip
    rename_i h t h' t'
    have ih := eqGV_chain n t t' tz hc hx.2 hy.2
    simp only [eqGV, List.range_succ_eq_map, List.all_cons, List.all_map, ih, GV.getT, getT_nil]
    rfl
  | 0, _, _, .s _, hc, _, _ | 0, _, _, .c _ _, hc, _, _ | 0, _, _, .ar _ _ _, hc, _, _ | _ + 1, _, _, .s _, hc, _, _ | _ + 1, _, _, .u, hc, _, _ | _ + 1, _, _, .ar _ _ _, hc, _, _ => by cases hc

theorem chain_ns : ∀ (n : Nat) (z : GV), chainB n z = true → ∀ x, kin x z → ∀ v, x ≠ .s v
  | 0, .u, _, x, hk, v, e => by subst e; exact hk.elim
  | n + 1, .c _ _, _, x, hk, v, e => by subst e; exact hk.elim
  | 0, .s _, hc, _, _, _, _ | 0, .c _ _, hc, _, _, _, _ | 0, .ar _ _ _, hc, _, _, _, _ | _ + 1, .s _, hc, _, _, _, _ | _ + 1, .u, hc, _, _, _, _ | _ + 1, .ar _ _ _, hc, _, _, _, _ => by cases hc

theorem eqR_deep {P : Program} (e : Nat) : ∀ (d : Nat) (t : TypeId) (z x y : GV), eqShape P d t z = true → kin x z → kin y z → x.ok → y.ok → ∀ w, (Op.equalIn (e + d) t x.val y.val).run P w = .ok (eqGV x y) w := by
  intro d
  induction d with
  | zero => intro t z x y h; simp [eqShape] at h
  | succ d ih =>
    intro t z x y h hx hy okx oky w
    unfold eqShape at h
    rw [← Nat.add_assoc]
    split at h
    · rename_i q k m hu
      cases x <;> first | exact hx.elim | skip
      cases y <;> first | exact hy.elim | skip
      rename_i a b
      cases a <;> simp only [kin, kinV] at hx <;> first | exact hx.elim | skip
      cases b <;> simp only [kin, kinV] at hy <;> first | exact hy.elim | skip
      subst hx; subst hy
      exact run_equalIn_int w (e + d) t _ _ _ _ hu
    · rename_i q hu
      cases x <;> first | exact hx.elim | skip
      cases y <;> first | exact hy.elim | skip
      rename_i a b
      cases a <;> simp only [kin, kinV] at hx <;> first | exact hx.elim | skip
      cases b <;> simp only [kin, kinV] at hy <;> first | exact hy.elim | skip
      exact run_equalIn_bool' w (e + d) t _ _ hu
    · rename_i q hu
      cases x <;> first | exact hx.elim | skip
      cases y <;> first | exact hy.elim | skip
      rename_i a b
      cases a <;> simp only [kin, kinV] at hx <;> first | exact hx.elim | skip
      cases b <;> simp only [kin, kinV] at hy <;> first | exact hy.elim | skip
      rename_i s1 s2
      have := run_equalIn_string (P := P) w (e + d) t s1 s2 hu
      simp only [GV.val, eqGV, eqScB]
      rw [this, toList_eq']
    · rename_i n et n' k f hu
      simp only [Bool.and_eq_true, beq_iff_eq] at h
      obtain ⟨rfl, h⟩ := h
      split at h
      · rename_i dd i hdd hi
        simp only [Bool.and_eq_true, beq_iff_eq, List.all_eq_true, List.mem_range] at h
        obtain ⟨rfl, h⟩ := h
        cases x <;> first | exact hx.elim | skip
        cases y <;> first | exact hy.elim | skip
        rename_i n1 k1 f1 n2 k2 f2
        obtain ⟨rfl, rfl, hx⟩ := hx
        obtain ⟨rfl, rfl, hy⟩ := hy
        have hc : P.cellsOf et = i.size := by simp [Program.cellsOf, hi]
        simp only [GV.val]
        rw [run_equalIn_array w (e + d) _ _ hu hi, hc]
        have key : ∀ (is : List Nat), (∀ j ∈ is, j < n2) → (Op.eqItems (e + d) et i.size (GV.flat (.ar n2 i.size f1)).toArray (GV.flat (.ar n2 i.size f2)).toArray is).run P w = .ok (is.all fun j => eqGV (f1 j) (f2 j)) w := by
          intro is
          induction is with
          | nil => intro _; simp [Op.eqItems]
          | cons j is ihl =>
            intro hj
            have hjn := hj j (by simp)
            obtain ⟨g1, g2⟩ := GV.get_ar n2 i.size f1 j hjn
            obtain ⟨g3, g4⟩ := GV.get_ar n2 i.size f2 j hjn
            have hf := (h j hjn).1
            have p1 := run_part (P := P) hdd hi okx g1 (kin_fits (hx j hjn) _ _ hf) w
            have p2 := run_part (P := P) hdd hi oky g3 (kin_fits (hy j hjn) _ _ hf) w
            rw [g2] at p1; rw [g4] at p2
            have p3 := ih et (f j) (f1 j) (f2 j) (h j hjn).2 (hx j hjn) (hy j hjn) (okx j hjn).1 (oky j hjn).1 w
            simp only [Op.eqItems, Sem.run_bind, p1, p2, p3, Result.andThen_ok, List.all_cons]
            cases hr : eqGV (f1 j) (f2 j)
            · simp
            · simpa using ihl (fun j hj' => hj j (by simp [hj']))
        exact key _ (fun j hj => List.mem_range.1 hj)
      · cases h
    · rename_i zz _ _ fs hu
      simp only [Bool.and_eq_true, Bool.not_eq_true', List.all_eq_true, List.mem_range] at h
      obtain ⟨⟨hch, hst⟩, h⟩ := h
      have hfs : P.fieldsOf t = fs := by simp [Program.fieldsOf, hu]
      rw [val_agg (chain_ns _ _ hch x hx), val_agg (chain_ns _ _ hch y hy), run_equalIn_struct w (e + d) t _ _ (by rw [hfs]; exact hu) hst, hfs, eqGV_chain _ _ _ _ hch hx hy]
      have key : ∀ (l : List Field) (k : Nat), (∀ j, l[j]? = fs[k + j]?) → (Op.eqFields (e + d) (GV.flat x).toArray (GV.flat y).toArray l).run P w = .ok ((List.range' k l.length).all fun i => eqGV (x.getT [i]) (y.getT [i])) w := by
        intro l
        induction l with
        | nil => intro k _; simp [Op.eqFields]
        | cons f l ihl =>
          intro k hl
          have h0 : fs[k]? = some f := by simpa using (hl 0).symm
          have hk : k < fs.size := (Array.getElem?_eq_some_iff.1 h0).1
          have h1 := h k hk
          rw [h0] at h1
          simp only [Bool.and_eq_true, bne_iff_ne, ne_eq] at h1
          obtain ⟨hn, h1⟩ := h1
          split at h1
          · rename_i dd i hdd hi
            simp only [Bool.and_eq_true, beq_iff_eq] at h1
            obtain ⟨⟨⟨hs, ho⟩, hfit⟩, hsh⟩ := h1
            obtain ⟨uu, hu'⟩ := Option.isSome_iff_exists.mp hs
            obtain ⟨u1, a1, a2, a3⟩ := kin_get x zz [k] hx uu hu'
            obtain ⟨u2, b1, b2, b3⟩ := kin_get y zz [k] hy uu hu'
            rw [GV.getT_of zz [k] uu hu'] at hfit hsh
            have p1 := run_part (P := P) hdd hi okx a1 (kin_fits a2 _ _ hfit) w
            have p2 := run_part (P := P) hdd hi oky b1 (kin_fits b2 _ _ hfit) w
            rw [a3, ho] at p1; rw [b3, ho] at p2
            have p3 := ih f.type uu u1 u2 hsh a2 b2 (GV.get_at x [k] u1 okx a1).1 (GV.get_at y [k] u2 oky b1).1 w
            have ihl' := ihl (k + 1) (fun j => by have := hl (j + 1); simpa [Nat.add_assoc, Nat.add_comm 1 j] using this)
            simp only [Op.eqFields, hn, ne_eq, not_false_eq_true, if_true, Sem.run_bind, p1, p2, p3, Result.andThen_ok, List.length_cons, List.range'_succ, List.all_cons, GV.getT_of x [k] u1 a1, GV.getT_of y [k] u2 b1]
            cases hr : eqGV u1 u2
            · simp
            · simpa using ihl'
          · cases h1
      have := key fs.toList 0 (by simp)
      rw [this]
      simp [List.range_eq_range']
    · cases h

theorem eqG_of {P : Program} {t : TypeId} {z x y : GV} (h1 : eqShape P 20 t z = true) (h2 : P.eqGuardType P.depth t = false) (hn : z.isS = false) (hx : kin x z) (hy : kin y z) (okx : x.ok) (oky : y.ok) : EqG P t x y (eqGV x y) := by
  have key : ∀ uu, kin uu z → uu.val = .agg (GV.flat uu).toArray := fun uu hu => val_agg (fun v e => by
    subst e
    cases z <;> first | exact hu.elim | skip
    cases hn)
  have h := fun w => eqR_deep (P := P) 9980 20 t z x y h1 hx hy okx oky w
  intro a b w
  have hw := h w
  rw [key x hx, key y hy] at hw ⊢
  constructor
  · rw [Sem.run_bind, run_eqGuard_agg w _ _ _ _ _ _ h2, Result.andThen_ok, run_eql_struct w, hw]; rfl
  · rw [Sem.run_bind, run_eqGuard_agg w _ _ _ _ _ _ h2, Result.andThen_ok, run_neq_struct w, hw]; rfl

theorem eqG_bool {P : Program} {t : TypeId} (hu : P.underlying t = some .bool) (a b : Bool) : EqG P t (.s (.bool a)) (.s (.bool b)) (a == b) := by
  intro x y w
  have h : (Op.equal t (.bool a) (.bool b)).run P w = .ok (a == b) w := run_equalIn_bool' w 9999 t a b hu
  constructor <;> simp [eqGuard, binOp, GV.val, Sem.run_bind, h]

end Go.Proofs.YtmjiojflncffeaaGreat.Vc

/- The code of some functions of the program, its types resolved: printed by a program of this claim. -/
set_option linter.unusedVariables false
set_option maxRecDepth 100000
namespace Go.Proofs.YtmjiojflncffeaaGreat.Vc
open Go Go.Proofs

abbrev f_tree_top : Nat := 60
def c_tree_top : Cd :=
 (.seq (.rg [⟨none, [(some 2, .mv (.c (.bool false)))]⟩] [0])
 (.seq (.rg [⟨none, [(some 3, .mv (.t 0)), (some 4, .bin .eql (.t 3) (.c (.int .i64 1))), (some 5, .mv (.t 4))]⟩, ⟨some (5, false), [(some 6, .mv (.t 0)), (some 7, .bin .eql (.t 6) (.c (.int .i64 2)))]⟩, ⟨none, [(some 8, .pick (.t 5) (.c (.bool true)) (.t 7)), (some 2, .mv (.t 8))]⟩] [2])
 .ret))
theorem k_tree_top : Ok Tryz.prog 60 c_tree_top 9 [] [.tmp 2] := Ok.mk' Tryz.func60 (by kernel_rfl) (by kernel_rfl) (by kernel_rfl)

abbrev f_tree_Tree_none : Nat := 56
def c_tree_Tree_none : Cd :=
 (.seq (.rg [⟨none, [(some 2, .mv (.c (.bool false)))]⟩] [0])
 (.seq (.rg [⟨none, [(some 3, .mv (.t 0)), (some 4, .eqA false 40 (.t 3) (.c (.pointer none))), (some 5, .mv (.t 4))]⟩, ⟨some (5, false), [(some 6, .mv (.t 0)), (some 7, .nilc (.t 6)), (some 8, .fldA (.t 7) 0 0), (some 9, .ld (.t 8) 1 false), (some 10, .eqA false 114 (.t 9) (.c (.map none)))]⟩, ⟨none, [(some 11, .pick (.t 5) (.c (.bool true)) (.t 10)), (some 2, .mv (.t 11))]⟩] [2])
 .ret))
theorem k_tree_Tree_none : Ok Tryz.prog 56 c_tree_Tree_none 12 [] [.tmp 2] := Ok.mk' Tryz.func56 (by kernel_rfl) (by kernel_rfl) (by kernel_rfl)

abbrev f_tree_bare : Nat := 66
def c_tree_bare : Cd :=
 (.seq (.rg [⟨none, [(some 0, .mv (.c (.pointer none)))]⟩] [])
 (.seq (.rg [⟨none, [(some 1, .mkm), (some 2, .mkm), (some 3, .bld (.c (.c (.s (.int .i64 0)) (.c (.s (.string ⟨#[]⟩)) .u)) (.c (.s (.map none)) (.c (.s (.map none)) .u))) [(1, (.t 1)), (2, (.t 2))]), (some 4, .box 132 (.t 3)), (some 0, .mv (.t 4)), (none, .gh)]⟩] [0])
 .ret))
theorem k_tree_bare : Ok Tryz.prog 66 c_tree_bare 5 [] [.tmp 0] := Ok.mk' Tryz.func66 (by kernel_rfl) (by kernel_rfl) (by kernel_rfl)

abbrev f_tree_New : Nat := 34
def c_tree_New : Cd :=
 (.seq (.rg [⟨none, [(some 0, .mv (.c (.pointer none)))]⟩] [])
 (.seq (.rg [⟨none, [(some 1, .mkm), (some 2, .call 66 []), (none, .mup (some .i64) (.t 1) (.c (.int .i64 1)) (.t 2)), (some 3, .call 66 []), (none, .mup (some .i64) (.t 1) (.c (.int .i64 2)) (.t 3)), (some 4, .mv (.t 1)), (some 5, .bld (.c (.s (.int .u8 0)) .u) []), (some 6, .box 139 (.t 5)), (none, .gh), (some 7, .bld (.c (.s (.map none)) (.c (.s (.pointer none)) (.c (.s (.int .i64 0)) (.c (.s (.slice none 0 0)) (.c (.s (.int .i64 0)) .u))))) [(0, (.t 4)), (1, (.t 6))]), (some 8, .box 118 (.t 7)), (some 0, .mv (.t 8)), (none, .gh)]⟩] [0])
 .ret))
theorem k_tree_New : Ok Tryz.prog 34 c_tree_New 9 [] [.tmp 0] := Ok.mk' Tryz.func34 (by kernel_rfl) (by kernel_rfl) (by kernel_rfl)

abbrev f_tree_Tree_put : Nat := 67
def c_tree_Tree_put_R4 : Cd :=
 (.seq (.gh (.rgq [⟨none, [(some 30, .mv (.t 0)), (some 31, .nilc (.t 30)), (some 32, .fldA (.t 31) 0 0), (some 33, .ld (.t 32) 1 false), (some 34, .mv (.t 1)), (some 35, .mlk (some .i64) (.t 33) (.t 34) (.pointer none) false), (some 36, .ld (.t 5) 2 true)]⟩] [⟨none, [(some 37, .nilc (.t 35)), (some 38, .fldA (.t 37) 0 0), (none, .st (.t 38) (.t 36) 2)]⟩] [0, 1, 5]))
 (.seq (.rgq [⟨none, [(some 39, .mv (.t 0)), (some 40, .nilc (.t 39)), (some 41, .fldA (.t 40) 0 0), (some 42, .ld (.t 41) 1 false), (some 43, .fldA (.t 5) 0 0), (some 44, .ld (.t 43) 1 false)]⟩] [⟨none, [(some 45, .mlk (some .i64) (.t 42) (.t 44) (.pointer none) false), (some 7, .mv (.t 45))]⟩] [1, 7])
 (.seq (.rg [⟨none, [(some 46, .mv (.t 7)), (some 47, .eqA true 115 (.t 46) (.c (.pointer none)))]⟩] [1, 7, 47])
 (.ite (.t 47)
 (.rg [⟨none, [(some 48, .mv (.t 7)), (some 49, .nilc (.t 48)), (some 50, .fldA (.t 49) 2 3), (some 51, .ld (.t 50) 1 false), (some 52, .mv (.t 1)), (none, .mup (some .i64) (.t 51) (.t 52) (.c (.int .i64 1)))]⟩] [])
 .skip))))
def c_tree_Tree_put : Cd :=
 (.seq (.rg [⟨none, [(some 5, .box 69 (.t 2))]⟩] [0, 1, 5])
 (.seq (.seq (.rgq [⟨none, [(some 8, .mv (.t 0)), (some 9, .nilc (.t 8)), (some 10, .fldA (.t 9) 0 0), (some 11, .ld (.t 10) 1 false), (some 12, .mv (.t 0)), (some 13, .nilc (.t 12)), (some 14, .fldA (.t 13) 0 0), (some 15, .ld (.t 14) 1 false), (some 16, .mv (.t 1)), (some 17, .mlk (some .i64) (.t 15) (.t 16) (.pointer none) false), (some 18, .nilc (.t 17)), (some 19, .fldA (.t 18) 0 0), (some 20, .fldA (.t 19) 0 0), (some 21, .ld (.t 20) 1 false)]⟩] [⟨none, [(some 22, .mlk (some .i64) (.t 11) (.t 21) (.pointer none) false), (some 6, .mv (.t 22))]⟩] [0, 1, 5, 6])
 (.seq (.rg [⟨none, [(some 23, .mv (.t 6)), (some 24, .eqA true 115 (.t 23) (.c (.pointer none)))]⟩] [0, 1, 5, 6, 24])
 (.ite (.t 24)
 (.rg [⟨none, [(some 25, .mv (.t 6)), (some 26, .nilc (.t 25)), (some 27, .fldA (.t 26) 2 3), (some 28, .ld (.t 27) 1 false), (some 29, .mv (.t 1)), (none, .mdl (some .i64) (.t 28) (.t 29))]⟩] [0, 1, 5])
 .skip)))
 c_tree_Tree_put_R4))
theorem k_tree_Tree_put : Ok Tryz.prog 67 c_tree_Tree_put 53 [(1, 14), (4, 7), (5, 6)] [] := Ok.mk' Tryz.func67 (by kernel_rfl) (by kernel_rfl) (by kernel_rfl)

abbrev f_tree_Tree_below : Nat := 90
def c_tree_Tree_below_L0 : Cd :=
 (.seq (.rg [⟨none, [(some 15, .bin .lss (.t 14) (.t 13))]⟩] [0, 1, 2, 13, 14, 15])
 (.seq (.ite (.t 15)
 .skip
 (.exit 0))
 (.seq (.block 1 (.seq (.seq (.rg [⟨none, [(some 16, .mv (.t 1)), (some 17, .mv (.t 2)), (some 18, .bin .eql (.t 16) (.t 17))]⟩] [0, 1, 2, 13, 14, 18])
 (.ite (.t 18)
 (.seq (.rg [⟨none, [(some 6, .mv (.c (.bool true)))]⟩] [6])
 .ret)
 .skip))
 (.seq (.rg [⟨none, [(some 19, .mv (.t 0)), (some 20, .nilc (.t 19)), (some 21, .fldA (.t 20) 0 0), (some 22, .ld (.t 21) 1 false), (some 23, .mv (.t 1)), (some 24, .mlk (some .i64) (.t 22) (.t 23) (.pointer none) false), (some 7, .mv (.t 24))]⟩] [0, 1, 2, 7, 13, 14])
 (.seq (.seq (.rg [⟨none, [(some 25, .mv (.t 7)), (some 26, .eqA false 115 (.t 25) (.c (.pointer none))), (some 27, .mv (.t 26))]⟩, ⟨some (27, false), [(some 28, .mv (.t 1)), (some 29, .call 60 [(.t 28)])]⟩, ⟨none, [(some 30, .pick (.t 27) (.c (.bool true)) (.t 29))]⟩] [0, 2, 7, 13, 14, 30])
 (.ite (.t 30)
 (.seq (.rg [⟨none, [(some 6, .mv (.c (.bool false)))]⟩] [6])
 .ret)
 .skip))
 (.rg [⟨none, [(some 31, .mv (.t 7)), (some 32, .nilc (.t 31)), (some 33, .fldA (.t 32) 0 0), (some 34, .fldA (.t 33) 0 0), (some 35, .ld (.t 34) 1 false), (some 1, .mv (.t 35))]⟩] [0, 1, 2, 13, 14])))))
 (.rg [⟨none, [(some 36, .bin .add (.t 14) (.c (.int .i64 1))), (some 14, .mv (.t 36))]⟩] [0, 1, 2, 13, 14]))))
def c_tree_Tree_below : Cd :=
 (.seq (.rg [⟨none, [(some 6, .mv (.c (.bool false)))]⟩] [0, 1, 2])
 (.seq (.seq (.rg [⟨none, [(some 8, .mv (.t 0)), (some 9, .nilc (.t 8)), (some 10, .fldA (.t 9) 0 0), (some 11, .ld (.t 10) 1 false), (some 12, .mln (some .i64) (.t 11)), (some 13, .bin .add (.t 12) (.c (.int .i64 1))), (some 14, .mv (.c (.int .i64 0)))]⟩] [0, 1, 2, 13, 14])
 (.block 0 (.loop c_tree_Tree_below_L0)))
 (.seq (.rg [⟨none, [(some 6, .mv (.c (.bool false)))]⟩] [6])
 .ret)))
theorem k_tree_Tree_below : Ok Tryz.prog 90 c_tree_Tree_below 37 [] [.tmp 6] := Ok.mk' Tryz.func90 (by kernel_rfl) (by kernel_rfl) (by kernel_rfl)

abbrev f_tree_Tree_May : Nat := 53
def c_tree_Tree_May : Cd :=
 (.seq (.rg [⟨none, [(some 3, .box 26 (.t 1)), (some 4, .mv (.c (.bool false)))]⟩] [0, 3])
 (.seq (.seq (.rg [⟨none, [(some 7, .mv (.t 0)), (some 8, .call 56 [(.t 7)])]⟩] [0, 3, 8])
 (.ite (.t 8)
 (.seq (.rg [⟨none, [(some 4, .mv (.c (.bool false)))]⟩] [4])
 .ret)
 .skip))
 (.seq (.rgq [⟨none, [(some 9, .mv (.t 0)), (some 10, .nilc (.t 9)), (some 11, .fldA (.t 10) 0 0), (some 12, .ld (.t 11) 1 false), (some 13, .fldA (.t 3) 2 3), (some 14, .ld (.t 13) 1 false), (some 15, .mlk (some .i64) (.t 12) (.t 14) (.pointer none) false), (some 16, .eqA true 115 (.t 15) (.c (.pointer none))), (some 17, .mv (.t 0)), (some 18, .nilc (.t 17)), (some 19, .fldA (.t 18) 0 0), (some 20, .ld (.t 19) 1 false), (some 21, .fldA (.t 3) 3 4), (some 22, .ld (.t 21) 1 false), (some 23, .mlk (some .i64) (.t 20) (.t 22) (.pointer none) false), (some 24, .eqA true 115 (.t 23) (.c (.pointer none))), (some 5, .mv (.t 16))]⟩] [⟨none, [(some 6, .mv (.t 24))]⟩] [0, 3, 5, 6])
 (.seq (.seq (.rg [⟨none, [(some 25, .fldA (.t 3) 1 2), (some 26, .ld (.t 25) 1 false)]⟩] [0, 3, 5, 6, 26])
 (.block 0 (.seq (.rg [⟨none, [(some 28, .bin .eql (.t 26) (.c (.int .i64 1))), (some 27, .mv (.t 28))]⟩] [0, 3, 5, 6, 26, 27])
 (.ite (.t 27)
 (.seq (.rg [⟨none, [(some 29, .fldA (.t 3) 2 3), (some 30, .ld (.t 29) 1 false), (some 31, .bin .gtr (.t 30) (.c (.int .i64 2))), (some 32, .mv (.t 31))]⟩, ⟨some (32, true), [(some 33, .mv (.t 5)), (some 34, .un .not (.t 33))]⟩, ⟨none, [(some 35, .pick (.t 32) (.t 34) (.c (.bool false))), (some 36, .mv (.t 35))]⟩, ⟨some (36, true), [(some 37, .mv (.t 6))]⟩, ⟨none, [(some 38, .pick (.t 36) (.t 37) (.c (.bool false))), (some 39, .mv (.t 38))]⟩, ⟨some (39, true), [(some 40, .fldA (.t 3) 4 5), (some 41, .ld (.t 40) 1 false), (some 42, .call 89 [(.t 41)])]⟩, ⟨none, [(some 43, .pick (.t 39) (.t 42) (.c (.bool false))), (some 4, .mv (.t 43))]⟩] [4])
 .ret)
 (.seq (.rg [⟨none, [(some 45, .bin .eql (.t 26) (.c (.int .i64 2))), (some 44, .mv (.t 45))]⟩] [0, 3, 5, 6, 26, 44])
 (.ite (.t 44)
 (.seq (.rg [⟨none, [(some 46, .mv (.t 5)), (some 47, .mv (.t 46))]⟩, ⟨some (47, true), [(some 48, .fldA (.t 3) 2 3), (some 49, .ld (.t 48) 1 false), (some 50, .call 60 [(.t 49)]), (some 51, .un .not (.t 50))]⟩, ⟨none, [(some 52, .pick (.t 47) (.t 51) (.c (.bool false))), (some 53, .mv (.t 52))]⟩, ⟨some (53, true), [(some 54, .mv (.t 6))]⟩, ⟨none, [(some 55, .pick (.t 53) (.t 54) (.c (.bool false))), (some 56, .mv (.t 55))]⟩, ⟨some (56, true), [(some 57, .mv (.t 0)), (some 58, .fldA (.t 3) 3 4), (some 59, .ld (.t 58) 1 false), (some 60, .fldA (.t 3) 2 3), (some 61, .ld (.t 60) 1 false), (some 62, .call 90 [(.t 57), (.t 59), (.t 61)]), (some 63, .un .not (.t 62))]⟩, ⟨none, [(some 64, .pick (.t 56) (.t 63) (.c (.bool false))), (some 65, .mv (.t 64))]⟩, ⟨some (65, true), [(some 66, .fldA (.t 3) 4 5), (some 67, .ld (.t 66) 1 false), (some 68, .call 89 [(.t 67)])]⟩, ⟨none, [(some 69, .pick (.t 65) (.t 68) (.c (.bool false))), (some 4, .mv (.t 69))]⟩] [4])
 .ret)
 (.seq (.rg [⟨none, [(some 71, .bin .eql (.t 26) (.c (.int .i64 3))), (some 70, .mv (.t 71))]⟩] [3, 5, 70])
 (.ite (.t 70)
 (.seq (.rg [⟨none, [(some 72, .mv (.t 5)), (some 73, .mv (.t 72))]⟩, ⟨some (73, true), [(some 74, .fldA (.t 3) 5 6), (some 75, .ld (.t 74) 1 false), (some 76, .fldA (.t 3) 6 7), (some 77, .ld (.t 76) 1 false), (some 78, .call 91 [(.t 75), (.t 77)])]⟩, ⟨none, [(some 79, .pick (.t 73) (.t 78) (.c (.bool false))), (some 4, .mv (.t 79))]⟩] [4])
 .ret)
 .skip))))))))
 (.seq (.rg [⟨none, [(some 4, .mv (.c (.bool false)))]⟩] [4])
 .ret)))))
theorem k_tree_Tree_May : Ok Tryz.prog 53 c_tree_Tree_May 80 [(3, 17)] [.tmp 4] := Ok.mk' Tryz.func53 (by kernel_rfl) (by kernel_rfl) (by kernel_rfl)

abbrev f_tree_Name : Nat := 89
def c_tree_Name_L0 : Cd :=
 (.seq (.rg [⟨none, [(some 24, .bin .lss (.t 23) (.t 22))]⟩] [21, 22, 23, 24])
 (.seq (.ite (.t 24)
 .skip
 (.exit 0))
 (.seq (.block 1 (.seq (.rg [⟨none, [(some 25, .idxS (.t 21) (.t 23) 1), (some 26, .ld (.t 25) 1 false), (some 4, .mv (.t 26))]⟩] [4, 21, 22, 23])
 (.seq (.rg [⟨none, [(some 27, .mv (.t 4)), (some 28, .bin .eql (.t 27) (.c (.int .u8 47)))]⟩] [21, 22, 23, 28])
 (.ite (.t 28)
 (.seq (.rg [⟨none, [(some 2, .mv (.c (.bool false)))]⟩] [2])
 .ret)
 .skip))))
 (.rg [⟨none, [(some 29, .bin .add (.t 23) (.c (.int .i64 1))), (some 23, .mv (.t 29))]⟩] [21, 22, 23]))))
def c_tree_Name : Cd :=
 (.seq (.rg [⟨none, [(some 2, .mv (.c (.bool false)))]⟩] [0])
 (.seq (.seq (.rg [⟨none, [(some 5, .mv (.t 0)), (some 6, .bin .eql (.t 5) (.c (.string ⟨#[]⟩))), (some 7, .mv (.t 6))]⟩, ⟨some (7, false), [(some 8, .mv (.t 0)), (some 9, .lenS (.t 8)), (some 10, .bin .gtr (.t 9) (.c (.int .i64 255)))]⟩, ⟨none, [(some 11, .pick (.t 7) (.c (.bool true)) (.t 10)), (some 12, .mv (.t 11))]⟩, ⟨some (12, false), [(some 13, .mv (.t 0)), (some 14, .bin .eql (.t 13) (.c (.string ⟨#[46]⟩)))]⟩, ⟨none, [(some 15, .pick (.t 12) (.c (.bool true)) (.t 14)), (some 16, .mv (.t 15))]⟩, ⟨some (16, false), [(some 17, .mv (.t 0)), (some 18, .bin .eql (.t 17) (.c (.string ⟨#[46, 46]⟩)))]⟩, ⟨none, [(some 19, .pick (.t 16) (.c (.bool true)) (.t 18))]⟩] [0, 19])
 (.ite (.t 19)
 (.seq (.rg [⟨none, [(some 2, .mv (.c (.bool false)))]⟩] [2])
 .ret)
 .skip))
 (.seq (.seq (.rg [⟨none, [(some 20, .mv (.t 0)), (some 21, .s2b 5 (.t 20)), (some 22, .len (.t 21)), (some 23, .mv (.c (.int .i64 0)))]⟩] [21, 22, 23])
 (.block 0 (.loop c_tree_Name_L0)))
 (.seq (.rg [⟨none, [(some 2, .mv (.c (.bool true)))]⟩] [2])
 .ret))))
theorem k_tree_Name : Ok Tryz.prog 89 c_tree_Name 30 [] [.tmp 2] := Ok.mk' Tryz.func89 (by kernel_rfl) (by kernel_rfl) (by kernel_rfl)

abbrev f_tree_pair : Nat := 91
def c_tree_pair : Cd :=
 (.seq (.rg [⟨none, [(some 4, .mv (.c (.bool false)))]⟩] [0, 1])
 (.seq (.rg [⟨none, [(some 5, .mv (.t 0)), (some 6, .bin .neq (.t 5) (.c (.string ⟨#[]⟩))), (some 7, .mv (.t 6))]⟩, ⟨some (7, true), [(some 8, .mv (.t 0)), (some 9, .lenS (.t 8)), (some 10, .bin .leq (.t 9) (.c (.int .i64 255)))]⟩, ⟨none, [(some 11, .pick (.t 7) (.t 10) (.c (.bool false))), (some 12, .mv (.t 11))]⟩, ⟨some (12, true), [(some 13, .mv (.t 1)), (some 14, .lenS (.t 13)), (some 15, .bin .leq (.t 14) (.c (.int .i64 255)))]⟩, ⟨none, [(some 16, .pick (.t 12) (.t 15) (.c (.bool false))), (some 4, .mv (.t 16))]⟩] [4])
 .ret))
theorem k_tree_pair : Ok Tryz.prog 91 c_tree_pair 17 [] [.tmp 4] := Ok.mk' Tryz.func91 (by kernel_rfl) (by kernel_rfl) (by kernel_rfl)

end Go.Proofs.YtmjiojflncffeaaGreat.Vc

/- Names: what the functions compute. -/
set_option linter.unusedVariables false
set_option linter.unusedSimpArgs false
set_option maxRecDepth 100000
namespace Go.Proofs.YtmjiojflncffeaaGreat.Vc
open Go Go.Proofs

/-- May it be a name? -/
def nameA (l : List UInt8) : Bool := !l.isEmpty && decide (l.length ≤ 255) && !(l == [46]) && !(l == [46, 46]) && !l.contains 47
theorem nameA_no {l : List UInt8} (h : nameA l = true) : 47 ∉ l := by
  simp only [nameA, Bool.and_eq_true, Bool.not_eq_true', List.contains_eq_mem, decide_eq_false_iff_not] at h
  exact h.2
theorem nameA_len {l : List UInt8} (h : nameA l = true) : l.length ≤ 255 := by
  simp only [nameA, Bool.and_eq_true, decide_eq_true_eq] at h
  exact h.1.1.1.2
def mkS (l : List UInt8) : ByteArray := ⟨l.toArray⟩
theorem mkS_list (l : List UInt8) : (mkS l).data.toList = l := rfl
theorem mkS_of (b : ByteArray) : mkS b.data.toList = b := rfl
theorem mkS_inj {a b : List UInt8} (h : mkS a = mkS b) : a = b := by
  have := congrArg (fun x : ByteArray => x.data.toList) h
  simpa [mkS] using this
theorem mkS_size (l : List UInt8) : (mkS l).size = l.length := by simp [mkS, ByteArray.size]
def gN (n : List UInt8) : GV := .s (.string (mkS n))
theorem gN_ok (n : List UInt8) : (gN n).ok := rfl
theorem getD_gN (ns : List (List UInt8)) (i : Nat) : (ns.map gN).getD i (.s (.string ⟨#[]⟩)) = .s (.string (mkS (ns.getD i []))) := by
  rw [List.getD_eq_getElem?_getD, List.getElem?_map, List.getD_eq_getElem?_getD]
  cases ns[i]? <;> rfl

theorem mkS_eq (n l : List UInt8) : (mkS n = mkS l) = (n = l) := propext ⟨mkS_inj, fun h => by rw [h]⟩
theorem mkS_e0 (n : List UInt8) : (mkS n = ⟨#[]⟩) = (n = []) := mkS_eq n []
theorem mkS_e46 (n : List UInt8) : (mkS n = ⟨#[46]⟩) = (n = [46]) := mkS_eq n [46]
theorem mkS_e4646 (n : List UInt8) : (mkS n = ⟨#[46, 46]⟩) = (n = [46, 46]) := mkS_eq n [46, 46]
theorem getD_gb (n : List UInt8) (i : Nat) : (n.map gb).getD i (gb 0) = .s (.int .u8 (n.getD i 0).toNat) := by
  rw [List.getD_eq_getElem?_getD, List.getElem?_map, List.getD_eq_getElem?_getD]
  cases n[i]? <;> rfl
theorem byte47 (b : UInt8) : ((b.toNat : Int) == 47) = (b == 47) := by
  by_cases h : b = 47
  · subst h; rfl
  · have h2 : b.toNat ≠ 47 := fun e => h (by rw [← UInt8.ofNat_toNat (x := b), e]; rfl)
    rw [show (b == 47) = false by simpa using h]
    simpa using fun e => h2 (by omega)

theorem nameA_bad {n : List UInt8} (h : n = [] ∨ ¬ n.length ≤ 255 ∨ n = [46] ∨ n = [46, 46]) : nameA n = false := by
  rcases h with rfl | h | rfl | rfl
  · rfl
  · simp [nameA]; intro _ h2; omega
  · decide
  · decide
theorem nameA_slash {n : List UInt8} {i : Nat} (hi : i < n.length) (h : n.getD i 0 = 47) : nameA n = false := by
  have : 47 ∈ n := by
    rw [List.getD_eq_getElem?_getD, List.getElem?_eq_getElem hi] at h
    simp at h
    rw [← h]
    exact List.getElem_mem _
  cases hn : nameA n with
  | false => rfl
  | true => exact absurd this (nameA_no hn)
theorem nameA_good {n : List UInt8} (h1 : n ≠ []) (h2 : n.length ≤ 255) (h3 : n ≠ [46]) (h4 : n ≠ [46, 46]) (h5 : ∀ j, j < n.length → n.getD j 0 ≠ 47) : nameA n = true := by
  have : 47 ∉ n := fun h => by
    obtain ⟨j, hj, e⟩ := List.mem_iff_getElem.1 h
    exact h5 j hj (by rw [List.getD_eq_getElem?_getD, List.getElem?_eq_getElem hj]; simpa using e)
  simp [nameA, h1, h2, h3, h4, this]

theorem Name_fn (n : List UInt8) (hb : n.length ≤ 140737488355328) : FnV Tryz.prog f_tree_Name [gN n] [.s (.bool (nameA n))] := by
  refine spec_fnv k_tree_Name (by simp) (by simp [gN_ok]) fun w => ?_
  simp (maxSteps := 2000000) only [c_tree_Name, gN, vc_skip, vc_ret, vc_seq, vc_block, vc_rg, vc_ite, thenQ_n, thenQ_r, kKeep_eq, segs_nil, segs_n, segs_g, ops_nil, ops_cons, vcOp, RO.isGh, skip_mk, skipL, ev, look, updL, put_mk, keep_mk, keepL, binV, binC, Value.oneCell', cond_true, cond_false, Nat.reduceEqDiff, ↓reduceIte, reduceCtorEq, Bool.true_and, Bool.not_false, true_and, initF, List.map_cons, List.map_nil, finW_r, resL, resOne, decide_eq_true_eq, decide_eq_false_iff_not, ↓br_tt, ↓br_tf, ↓br_ft, br_t, br_f, mkS_size, mkS_e0, mkS_e46, mkS_e4646]
  refine ⟨fun h0 => ⟨fun h1 => ⟨fun h2 => ⟨fun h3 => by rw [nameA_bad (.inr (.inr (.inr h3)))], fun h3 u => ?_⟩, fun h2 => by rw [nameA_bad (.inr (.inr (.inl h2)))]⟩, fun h1 => by rw [nameA_bad (.inr (.inl (by omega)))]⟩, fun h0 => by rw [nameA_bad (.inl h0)]⟩
  rw [mkS_list]
  refine vc_loop (ι := Nat) (fun i => ⟨[(21, .row 21 0 (n.length)), (22, .g (.s (.int .i64 (n.length)))), (23, .g (.s (.int .i64 (i))))], [(21, .ro 1 (gb 0) (n.map gb))], [u], PH.no⟩) (fun i => i ≤ n.length ∧ ∀ j, j < i → n.getD j 0 ≠ 47) (fun i => n.length - i) 0 (by simp) (ge_of ?_ ?_ rfl rfl rfl) ?_
  · simp [frIn, look]
  · simp [pvIn, look]
  rintro i ⟨hi, hj⟩
  generalize hQ : loopQ _ _ _ _ _ = Q
  simp (maxSteps := 2000000) only [c_tree_Name_L0, byte47, beq_iff_eq, beq_eq_false_iff_ne, vc_skip, vc_ret, vc_exit, vc_seq, vc_block, vc_rg, vc_ite, thenQ_n, thenQ_r, thenQ_e, blockQ_n, blockQ_r, kKeep_eq, segs_nil, segs_n, ops_nil, ops_cons, vcOp, ev, look, put_mk, keep_mk, keepL, rowE, rowD, binV, binC, Value.oneCell', cond_true, Nat.reduceEqDiff, ↓reduceIte, Nat.zero_add, Bool.true_and, Bool.not_false, true_and, Int.toNat_natCast, decide_eq_true_eq, decide_eq_false_iff_not, ne_eq, br_t, getT_nil, fits_s, getD_gb]
  refine ⟨fun hlt => ⟨by omega, fun h => ?_, fun h => ?_⟩, fun hlt => ?_⟩
  · subst hQ
    simp (maxSteps := 2000000) only [thenQ_r, blockQ_r, loopQ_r, look, ↓reduceIte, finW_r, resL, resOne, ne_eq]
    rw [nameA_slash (i := i) (by omega) h]
  · subst hQ; simp only [loopQ_n]; refine ⟨i + 1, ?_, ?_, ge_of ?_ ?_ rfl rfl rfl⟩
    · refine ⟨by omega, fun j hj2 => ?_⟩
      rcases Nat.lt_succ_iff_lt_or_eq.1 hj2 with h4 | rfl
      · exact hj j h4
      · exact h
    · omega
    · simp only [frIn, look, Nat.reduceEqDiff, ↓reduceIte, Bool.and_true, Bool.true_and, true_and, and_true]
      rw [wrap_n (by omega)]
      try simp
    · simp [pvIn, look]
  · subst hQ
    simp (maxSteps := 2000000) only [vc_ret, vc_seq, vc_rg, thenQ_n, blockQ_e, kKeep_eq, loopQ_e, segs_nil, segs_n, ops_nil, ops_cons, vcOp, ev, look, put_mk, keep_mk, keepL, Value.oneCell', cond_true, ↓reduceIte, finW_r, resL, resOne, ne_eq]
    rw [nameA_good h0 (by omega) h2 h3 fun j hjl => hj j (by omega)]

/-! ### A slash ahead -/

/-- The same of a string. -/
def nameB (b : ByteArray) : Bool := nameA b.data.toList
theorem NameB_fn (b : ByteArray) (hb : b.size ≤ 140737488355328) : FnV Tryz.prog f_tree_Name [.s (.string b)] [.s (.bool (nameB b))] := by
  have := Name_fn b.data.toList (by rw [Array.length_toList]; exact hb)
  rwa [gN, mkS_of] at this
theorem top_fn (n : Int) : FnV Tryz.prog f_tree_top [.s (.int .i64 n)] [.s (.bool (n == 1 || n == 2))] := by
  refine spec_fnv k_tree_top (by simp) (by simp [GV.ok, Value.oneCell']) fun w => ?_
  simp (maxSteps := 2000000) only [c_tree_top, vc_ret, vc_seq, vc_rg, thenQ_n, kKeep_eq, segs_nil, segs_n, segs_g, ops_nil, ops_cons, vcOp, RO.isGh, skip_mk, skipL, ev, look, put_mk, keep_mk, keepL, binV, binC, Value.oneCell', cond_true, cond_false, Nat.reduceEqDiff, ↓reduceIte, reduceCtorEq, Bool.true_and, Bool.not_false, true_and, initF, List.map_cons, List.map_nil, finW_r, resL, resOne, ↓br_tt, ↓br_ft, br_f]
  cases (n == 1) <;> simp
def pairB (a b : ByteArray) : Bool := !decide (a = ⟨#[]⟩) && decide (a.size ≤ 255) && decide (b.size ≤ 255)
theorem pair_fn (a b : ByteArray) : FnV Tryz.prog f_tree_pair [.s (.string a), .s (.string b)] [.s (.bool (pairB a b))] := by
  refine spec_fnv k_tree_pair (by simp) (by simp [GV.ok, Value.oneCell']) fun w => ?_
  simp (maxSteps := 2000000) only [c_tree_pair, vc_ret, vc_seq, vc_rg, thenQ_n, kKeep_eq, segs_nil, segs_n, segs_g, ops_nil, ops_cons, vcOp, RO.isGh, skip_mk, skipL, ev, look, put_mk, keep_mk, keepL, binV, binC, Value.oneCell', cond_true, cond_false, Nat.reduceEqDiff, ↓reduceIte, reduceCtorEq, Nat.zero_add, Bool.true_and, Bool.not_true, true_and, initF, List.map_cons, List.map_nil, finW_r, resL, resOne, decide_eq_true_eq, decide_eq_false_iff_not, ↓br_tt, ↓br_ft, br_t]
  have e : ∀ n : Nat, decide ((n : Int) ≤ 255) = decide (n ≤ 255) := fun n => decide_eq_decide.2 (by omega)
  refine ⟨fun h1 => ⟨fun h2 => ?_, fun h2 => ?_⟩, fun h1 => ?_⟩
  · rw [pairB, h1, decide_eq_true (show a.size ≤ 255 by omega), e]; rfl
  · rw [pairB, h1, decide_eq_false (show ¬ a.size ≤ 255 by omega)]; rfl
  · rw [pairB, h1]; rfl
end Go.Proofs.YtmjiojflncffeaaGreat.Vc

/- Slices that are known as values; what is known told anew. -/
set_option linter.unusedVariables false
set_option linter.unusedSimpArgs false
namespace Go.Proofs.YtmjiojflncffeaaGreat.Vc
open Go

theorem gh_ge {C : Ctx} {K : KT} {σ τ : SS} (h : Ge σ τ) (hK : K τ) : ghC C K σ := ⟨fun a w hR => ⟨τ, h.rel hR, hK⟩⟩
theorem gh_seq {C : Ctx} {K : KT} {σ : SS} (h : ghC C (fun τ => ghC C K τ) σ) : ghC C K σ := by
  constructor
  intro a w hR
  obtain ⟨τ, h1, h2⟩ := h.h a w hR
  exact h2.h a w h1
theorem gh_id {C : Ctx} {K : KT} {σ : SS} (h : K σ) : ghC C K σ := ⟨fun _ _ hR => ⟨σ, hR, h⟩⟩

theorem seen_of {C : Ctx} {ph : List PH} {m u : PH} {b o : Nat} {y : GV} {cs : Array Value} {e : TypeId} {fz : Nat × Nat} (hu : KN C.u0 (m :: ph) u) (hb : u b = some (.cells cs e fz)) (hy : y.ok) (hr : RowAt cs o y.flat) : Seen C ph m b o y := by
  refine ⟨hy, cs, e, fz, ?_, hr⟩
  rcases hu b _ hb with h | ⟨v, hv, h⟩
  · exact .inr (.inr h)
  · rcases List.mem_cons.1 hv with rfl | hv
    · exact .inl h
    · exact .inr (.inl ⟨v, hv, h⟩)

/-- A slice's place. -/
theorem SlR.shape {u : PH} {v : Value} {z : Nat} {xs : List GV} (h : SlR u v z xs) :
    (xs = [] ∧ ∃ a c, v = .slice a 0 c) ∨ (xs ≠ [] ∧ ∃ b o c, v = .slice (some ⟨b, o, none⟩) xs.length c ∧ xs.length ≤ c ∧ ∀ {C : Ctx} {ph : List PH} {m : PH}, KN C.u0 (m :: ph) u → ∀ i x, xs[i]? = some x → Seen C ph m b (o + i * z) x) := by
  obtain ⟨hels, ⟨rfl, rfl⟩ | ⟨⟨b, o, sp⟩, c, rfl, hc, hs⟩⟩ := h
  · exact .inl ⟨rfl, none, 0, rfl⟩
  · rcases xs.eq_nil_or_concat with rfl | hx
    · exact .inl ⟨rfl, some ⟨b, o, sp⟩, c, rfl⟩
    · have hx : xs ≠ [] := by obtain ⟨l, y, rfl⟩ := hx; simp
      have : 0 < xs.length := List.length_pos_iff.2 hx
      obtain ⟨cs, e, fz, h1, h2, h3⟩ := hs (by omega)
      simp only at h1 h2 h3
      subst h1
      refine .inr ⟨hx, b, o, c, rfl, hc, fun hu i x hix => seen_of hu h2 (hels x (List.mem_of_getElem? hix)).1 fun j v hj => ?_⟩
      rw [Nat.add_assoc]
      exact h3 _ _ (flats_at hels hix j v hj)
end Go.Proofs.YtmjiojflncffeaaGreat.Vc

/- A tree in memory. -/
set_option linter.unusedVariables false
set_option linter.unusedSimpArgs false
namespace Go.Proofs.YtmjiojflncffeaaGreat.Vc
open Go

/-! ### Lists by number, by text -/
section
variable {α : Type}
def getA : List (Int × α) → Int → Option α
  | [], _ => none
  | (k, x) :: l, n => if k = n then some x else getA l n
def modA (f : α → α) : List (Int × α) → Int → List (Int × α)
  | [], _ => []
  | (k, x) :: l, n => if k = n then (k, f x) :: l else (k, x) :: modA f l n
def delA : List (Int × α) → Int → List (Int × α)
  | [], _ => []
  | (k, x) :: l, n => if k = n then l else (k, x) :: delA l n
theorem getA_mod (f : α → α) : ∀ (l : List (Int × α)) (n j : Int), getA (modA f l n) j = if j = n then (getA l j).map f else getA l j
  | [], n, j => by simp [getA, modA]
  | (k, x) :: l, n, j => by
    by_cases h1 : k = n
    · subst h1
      by_cases h2 : k = j
      · subst h2; simp [getA, modA]
      · simp [getA, modA, h2, Ne.symm h2]
    · by_cases h2 : k = j
      · subst h2; simp [getA, modA, h1]
      · simp [getA, modA, h1, h2, getA_mod f l n j]
theorem keys_mod (f : α → α) : ∀ (l : List (Int × α)) (n : Int), (modA f l n).map (·.1) = l.map (·.1)
  | [], n => rfl
  | (k, x) :: l, n => by
    by_cases h1 : k = n <;> simp [modA, h1, keys_mod f l n]
theorem getA_app : ∀ (l r : List (Int × α)) (j : Int), getA (l ++ r) j = match getA l j with | some x => some x | none => getA r j
  | [], r, j => rfl
  | (k, x) :: l, r, j => by
    by_cases h : k = j
    · simp [getA, h]
    · simp [getA, h, getA_app l r j]
theorem getA_mem : ∀ {l : List (Int × α)} {j : Int} {x : α}, getA l j = some x → (j, x) ∈ l
  | [], j, x, h => by simp [getA] at h
  | (k, y) :: l, j, x, h => by
    by_cases hk : k = j
    · simp [getA, hk] at h; subst h; subst hk; simp
    · simp [getA, hk] at h; exact List.mem_cons_of_mem _ (getA_mem h)
theorem getA_none {l : List (Int × α)} {j : Int} : getA l j = none ↔ j ∉ l.map (·.1) := by
  induction l with
  | nil => simp [getA]
  | cons p l ih =>
    obtain ⟨k, x⟩ := p
    by_cases hk : k = j
    · simp [getA, hk]
    · simp only [getA, hk, if_false, List.map_cons, List.mem_cons, not_or, ih]
      exact ⟨fun h => ⟨fun e => hk e.symm, h⟩, fun h => h.2⟩
theorem getA_of_mem {l : List (Int × α)} (hn : (l.map (·.1)).Nodup) {j : Int} {x : α} (h : (j, x) ∈ l) : getA l j = some x := by
  induction l with
  | nil => simp at h
  | cons p l ih =>
    obtain ⟨k, y⟩ := p
    simp only [List.map_cons, List.nodup_cons] at hn
    rcases List.mem_cons.1 h with e | h
    · cases e; simp [getA]
    · have hk : k ≠ j := fun e => hn.1 (List.mem_map.2 ⟨(j, x), h, e.symm⟩)
      simp [getA, hk, ih hn.2 h]
theorem getA_del {l : List (Int × α)} (hn : (l.map (·.1)).Nodup) (n j : Int) : getA (delA l n) j = if j = n then none else getA l j := by
  induction l with
  | nil => simp [getA, delA]
  | cons p l ih =>
    obtain ⟨k, y⟩ := p
    simp only [List.map_cons, List.nodup_cons] at hn
    by_cases h1 : k = n
    · subst h1
      by_cases h2 : j = k
      · subst h2; simp only [delA, if_true]; exact getA_none.2 hn.1
      · simp [delA, getA, h2, Ne.symm h2]
    · by_cases h2 : k = j
      · subst h2; simp [delA, getA, h1]
      · simp [delA, getA, h1, h2, ih hn.2]
theorem keys_del : ∀ (l : List (Int × α)) (n : Int), (delA l n).map (·.1) = (l.map (·.1)).erase n
  | [], n => rfl
  | (k, x) :: l, n => by
    by_cases h1 : k = n
    · simp [delA, h1]
    · simp [delA, h1, keys_del l n]
end
def getS : List (ByteArray × ByteArray) → ByteArray → Option ByteArray
  | [], _ => none
  | (k, x) :: l, n => if k = n then some x else getS l n
def putS : List (ByteArray × ByteArray) → ByteArray → ByteArray → List (ByteArray × ByteArray)
  | [], n, y => [(n, y)]
  | (k, x) :: l, n, y => if k = n then (n, y) :: l else (k, x) :: putS l n y
def delS : List (ByteArray × ByteArray) → ByteArray → List (ByteArray × ByteArray)
  | [], _ => []
  | (k, x) :: l, n => if k = n then l else (k, x) :: delS l n
def putK (l : List Int) (n : Int) : List Int := if n ∈ l then l else l ++ [n]

/-! ### What a tree is, in the program -/
structure PN where
  parent : Int
  name : ByteArray
  attrs : List (ByteArray × ByteArray)
  kids : List Int
structure PT where
  nodes : List (Int × PN)
  ids : List Int
  last : Int
def PN.bare : PN := ⟨0, ⟨#[]⟩, [], []⟩
def PT.mod (T : PT) (k : Int) (f : PN → PN) : PT := { T with nodes := modA f T.nodes k }
def PT.get (T : PT) (k : Int) : Option PN := getA T.nodes k
theorem PT.get_mod (T : PT) (k : Int) (f : PN → PN) (j : Int) : (T.mod k f).get j = if j = k then (T.get j).map f else T.get j := getA_mod f T.nodes k j

inductive Role
  | t | nb | mk | nd (k : Int) | ab (k : Int) | kb (k : Int)
  deriving DecidableEq
abbrev Lay := Role → Nat
def ptr (b : Nat) : Value := .pointer (some ⟨b, 0, none⟩)
def rawN (L : Lay) (l : List (Int × PN)) : List (Value × Value) := l.map fun p => (.int .i64 p.1, ptr (L (.nd p.1)))
def rawA (l : List (ByteArray × ByteArray)) : List (Value × Value) := l.map fun p => (.string p.1, .string p.2)
def rawK (l : List Int) : List (Value × Value) := l.map fun k => (.int .i64 k, .int .i64 1)

theorem mget_rawN (L : Lay) : ∀ (l : List (Int × PN)) (n : Int), mget (rawN L l) (.int .i64 n) = (getA l n).map fun _ => ptr (L (.nd n))
  | [], n => rfl
  | (k, x) :: l, n => by
    have ih := mget_rawN L l n
    by_cases h : k = n
    · subst h; simp [rawN, mget, keq, getA]
    · have : keq (.int .i64 k) (.int .i64 n) = false := by simp [keq, h]
      simp only [rawN, List.map_cons, mget, this, cond_false, getA, h, if_false]
      exact ih
theorem mput_rawN (L : Lay) (v : Value) : ∀ (l : List (Int × PN)) (n : Int), getA l n = none → mput (rawN L l) (.int .i64 n) v = rawN L l ++ [(.int .i64 n, v)]
  | [], n, _ => rfl
  | (k, x) :: l, n, h => by
    by_cases hk : k = n
    · simp [getA, hk] at h
    · have hq : keq (.int .i64 k) (.int .i64 n) = false := by simp [keq, hk]
      simp only [getA, hk, if_false] at h
      have ih := mput_rawN L v l n h
      simp only [rawN, List.map_cons, mput, hq, cond_false, List.cons_append] at ih ⊢
      rw [ih]
theorem mdel_rawN (L : Lay) : ∀ (l : List (Int × PN)) (n : Int), mdel (rawN L l) (.int .i64 n) = rawN L (delA l n)
  | [], n => rfl
  | (k, x) :: l, n => by
    have ih := mdel_rawN L l n
    by_cases h : k = n
    · subst h; simp [rawN, mdel, keq, delA]
    · have hq : keq (.int .i64 k) (.int .i64 n) = false := by simp [keq, h]
      simp only [rawN, List.map_cons, mdel, hq, cond_false, delA, h, if_false] at ih ⊢
      rw [ih]
theorem mput_rawK : ∀ (l : List Int) (n : Int), mput (rawK l) (.int .i64 n) (.int .i64 1) = rawK (putK l n)
  | [], n => by simp [rawK, mput, putK]
  | k :: l, n => by
    have ih := mput_rawK l n
    by_cases h : k = n
    · subst h; simp [rawK, mput, keq, putK]
    · have hq : keq (.int .i64 k) (.int .i64 n) = false := by simp [keq, h]
      simp only [rawK, List.map_cons, mput, hq, cond_false] at ih ⊢
      rw [ih]
      unfold putK
      by_cases hm : n ∈ l
      · simp [hm]
      · simp [hm, Ne.symm h]
theorem mdel_rawK : ∀ (l : List Int) (n : Int), mdel (rawK l) (.int .i64 n) = rawK (l.erase n)
  | [], n => rfl
  | k :: l, n => by
    have ih := mdel_rawK l n
    by_cases h : k = n
    · subst h; simp [rawK, mdel, keq]
    · have hq : keq (.int .i64 k) (.int .i64 n) = false := by simp [keq, h]
      simp only [rawK, List.map_cons, mdel, hq, cond_false] at ih ⊢
      rw [ih, List.erase_cons_tail (by simpa using h), List.map_cons]
theorem mget_rawA : ∀ (l : List (ByteArray × ByteArray)) (n : ByteArray), mget (rawA l) (.string n) = (getS l n).map .string
  | [], n => rfl
  | (k, x) :: l, n => by
    have ih := mget_rawA l n
    by_cases h : k = n
    · subst h; simp [rawA, mget, keq, getS]
    · have hq : keq (.string k) (.string n) = false := by simp [keq, h]
      simp only [rawA, List.map_cons, mget, hq, cond_false, getS, h, if_false]
      exact ih
theorem mput_rawA (y : ByteArray) : ∀ (l : List (ByteArray × ByteArray)) (n : ByteArray), mput (rawA l) (.string n) (.string y) = rawA (putS l n y)
  | [], n => rfl
  | (k, x) :: l, n => by
    have ih := mput_rawA y l n
    by_cases h : k = n
    · subst h; simp [rawA, mput, keq, putS]
    · have hq : keq (.string k) (.string n) = false := by simp [keq, h]
      simp only [rawA, List.map_cons, mput, hq, cond_false, putS, h, if_false] at ih ⊢
      rw [ih]
theorem mdel_rawA : ∀ (l : List (ByteArray × ByteArray)) (n : ByteArray), mdel (rawA l) (.string n) = rawA (delS l n)
  | [], n => rfl
  | (k, x) :: l, n => by
    have ih := mdel_rawA l n
    by_cases h : k = n
    · subst h; simp [rawA, mdel, keq, delS]
    · have hq : keq (.string k) (.string n) = false := by simp [keq, h]
      simp only [rawA, List.map_cons, mdel, hq, cond_false, delS, h, if_false] at ih ⊢
      rw [ih]
theorem rawN_mod (L : Lay) (f : PN → PN) : ∀ (l : List (Int × PN)) (n : Int), rawN L (modA f l n) = rawN L l
  | [], n => rfl
  | (k, x) :: l, n => by
    have ih := rawN_mod L f l n
    by_cases h : k = n
    · simp [rawN, modA, h]
    · simp only [rawN, modA, h, if_false, List.map_cons] at ih ⊢
      rw [ih]
theorem rawN_lay {L L' : Lay} : ∀ {l : List (Int × PN)}, (∀ k x, (k, x) ∈ l → L' (.nd k) = L (.nd k)) → rawN L' l = rawN L l
  | [], _ => rfl
  | (k, x) :: l, h => by
    have ih := rawN_lay (L := L) (L' := L') (l := l) fun j y hj => h j y (by simp [hj])
    simp only [rawN, List.map_cons] at ih ⊢
    rw [ih, h k x (by simp)]

/-! ### Where it lies -/
def act (T : PT) : Role → Prop
  | .nd k => ∃ n, T.get k = some n
  | .ab k => ∃ n, T.get k = some n
  | .kb k => ∃ n, T.get k = some n
  | _ => True
def Holds (L : Lay) (T : PT) (idsV : Value) : Role → Obj → Prop
  | .t, o => ∃ e, o = .cells #[.map (some (L .nb)), ptr (L .mk), .int .i64 0, idsV, .int .i64 T.last] e (0, 0)
  | .nb, o => MapI (some .i64) o (rawN L T.nodes)
  | .mk, _ => True
  | .nd k, o => ∀ n, T.get k = some n → ∃ e, o = .cells #[.int .i64 n.parent, .string n.name, .map (some (L (.ab k))), .map (some (L (.kb k)))] e (0, 0)
  | .ab k, o => ∀ n, T.get k = some n → MapI none o (rawA n.attrs)
  | .kb k, o => ∀ n, T.get k = some n → MapI (some .i64) o (rawK n.kids)
structure TreeT (R : Role → Prop) (m : PH) (L : Lay) (T : PT) (idsV : Value) : Prop where
  has : ∀ r, R r → act T r → ∃ o, m (L r) = some o ∧ Holds L T idsV r o
  sep : ∀ r s, R r → R s → act T r → act T s → L r = L s → r = s
  nod : (T.nodes.map (·.1)).Nodup
/-- A tree, owned. -/
def TreeM (e : TypeId) (m : PH) (L : Lay) (T : PT) : Prop := ∃ mi mt idsV, m = uni mi mt ∧ dis mi mt ∧ SlO mi idsV e 1 (T.ids.map gi) ∧ TreeT (fun _ => True) mt L T idsV

theorem upd_self (m : PH) (b : Nat) (o : Obj) : m.upd b o b = some o := by simp [PH.upd]
theorem upd_ne {m : PH} {b j : Nat} {o : Obj} (h : j ≠ b) : m.upd b o j = m j := by simp [PH.upd, h]
theorem uni_upd {mi mt : PH} {b : Nat} {o : Obj} (h : mi b = none) : (uni mi mt).upd b o = uni mi (mt.upd b o) := by
  funext j
  by_cases hj : j = b
  · subst hj; simp [PH.upd, uni, h]
  · simp [PH.upd, uni, hj]
theorem dis_upd {mi mt : PH} {b : Nat} {o : Obj} (hd : dis mi mt) (h : mi b = none) : dis mi (mt.upd b o) := by
  intro j
  by_cases hj : j = b
  · subst hj; exact .inl h
  · rw [upd_ne hj]; exact hd j
theorem uni_r {mi mt : PH} (hd : dis mi mt) {b : Nat} {o : Obj} (h : mt b = some o) : uni mi mt b = some o ∧ mi b = none := by
  have hn : mi b = none := by
    rcases hd b with h1 | h1
    · exact h1
    · rw [h1] at h; cases h
  exact ⟨by simp [uni, hn, h], hn⟩

/-- A write to one of its blocks. -/
theorem TreeM.upd {e : TypeId} {m : PH} {L : Lay} {T T' : PT} (h : TreeM e m L T) (r : Role) (hr : act T r) (o' : Obj) (hids : T'.ids = T.ids) (hact : ∀ s, act T' s → act T s) (hnod : (T'.nodes.map (·.1)).Nodup)
    (hh : ∀ idsV o, Holds L T idsV r o → Holds L T' idsV r o') (hs : ∀ s, s ≠ r → act T' s → ∀ idsV o, Holds L T idsV s o → Holds L T' idsV s o) : TreeM e (m.upd (L r) o') L T' := by
  obtain ⟨mi, mt, idsV, rfl, hd, hi, ht⟩ := h
  obtain ⟨o, ho, hho⟩ := ht.has r trivial hr
  obtain ⟨_, hn⟩ := uni_r hd ho
  refine ⟨mi, mt.upd (L r) o', idsV, uni_upd hn, dis_upd hd hn, by rw [hids]; exact hi, ⟨fun s _ hs' => ?_, fun a b _ _ ha hb => ht.sep a b trivial trivial (hact a ha) (hact b hb), hnod⟩⟩
  by_cases hsr : s = r
  · subst hsr
    exact ⟨o', upd_self _ _ _, hh _ _ hho⟩
  · obtain ⟨o2, h2, h3⟩ := ht.has s trivial (hact s hs')
    exact ⟨o2, by rw [upd_ne (fun e => hsr (ht.sep s r trivial trivial (hact s hs') hr e))]; exact h2, hs s hsr hs' _ _ h3⟩
/-- What it holds. -/
theorem TreeM.at {e : TypeId} {m : PH} {L : Lay} {T : PT} (h : TreeM e m L T) (r : Role) (hr : act T r) : ∃ o idsV, m (L r) = some o ∧ Holds L T idsV r o := by
  obtain ⟨mi, mt, idsV, rfl, hd, hi, ht⟩ := h
  obtain ⟨o, ho, hho⟩ := ht.has r trivial hr
  exact ⟨o, idsV, (uni_r hd ho).1, hho⟩
theorem TreeM.nod {e : TypeId} {m : PH} {L : Lay} {T : PT} (h : TreeM e m L T) : (T.nodes.map (·.1)).Nodup := by
  obtain ⟨mi, mt, idsV, _, _, _, ht⟩ := h
  exact ht.nod
end Go.Proofs.YtmjiojflncffeaaGreat.Vc

/- What is read of a tree. -/
set_option linter.unusedVariables false
set_option linter.unusedSimpArgs false
namespace Go.Proofs.YtmjiojflncffeaaGreat.Vc
open Go

theorem eqG_map {P : Program} {t k e : TypeId} (ht : P.underlying t = some (.map k e)) (b : Nat) : EqG P t (.s (.map (some b))) (.s (.map none)) false := by
  have h0 : ∀ d w, (Op.equalIn (d + 1) t (.map (some b)) (.map none)).run P w = .ok false w := fun d w => by
    simp [Op.equalIn, Sem.run_bind, run_underlying' ht]
  have h : ∀ w, (Op.equal t (.map (some b)) (.map none)).run P w = .ok false w := fun w => h0 9999 w
  intro x y w
  exact ⟨by simp [eqGuard, binOp, Sem.run_bind, GV.val, h], by simp [eqGuard, binOp, Sem.run_bind, GV.val, h]⟩
theorem kn_seen {C : Ctx} {ph : List PH} {m u : PH} (hk : KN C.u0 (m :: ph) u) {b : Nat} {o : Obj} (h : u b = some o) : SeenO C ph m b o := by
  rcases hk b o h with h | ⟨v, hv, h⟩
  · exact .inr (.inr h)
  · rcases List.mem_cons.1 hv with rfl | hv
    · exact .inl h
    · exact .inr (.inl ⟨v, hv, h⟩)
theorem seen_cell {C : Ctx} {ph : List PH} {m u : PH} (hk : KN C.u0 (m :: ph) u) {b : Nat} {cs : Array Value} {e : TypeId} {fz : Nat × Nat} (h : u b = some (.cells cs e fz)) {j : Nat} {v : Value} (hj : cs[j]? = some v) (hv : v.oneCell' = true) : Seen C ph m b j (.s v) :=
  seen_of hk h hv fun i w hi => by
    cases i with
    | zero =>
      obtain rfl : v = w := by simpa [GV.flat] using hi
      simpa using hj
    | succ i => simp [GV.flat] at hi

/-- A node's pointer, if it is there. -/
def nptr : Option PN → Nat → Value
  | some _, b => .pointer (some ⟨b, 0, none⟩)
  | none, _ => .pointer none
theorem nptr_some (x : PN) (b : Nat) : nptr (some x) b = .pointer (some ⟨b, 0, none⟩) := rfl
theorem nptr_none (b : Nat) : nptr none b = .pointer none := rfl
theorem eqN_of {C : Ctx} {t t' : TypeId} (ht : C.P.underlying t = some (.pointer t')) {σ : SS} {d : Option Nat} {K : KT} {o : Option PN} {b : Nat} {neg : Bool} (hK : K (σ.put d (.g (.s (.bool (o.isNone != neg)))))) : eqK C t (.s (nptr o b)) (.s (.pointer none)) neg d K σ := by
  cases o with
  | none => exact eq_of (eqG_nilp ht) hK
  | some x => exact eq_of (eqG_ptr ht _) hK

section
variable {C : Ctx} {ph : List PH} {m u : PH} {e : TypeId} {L : Lay} {T : PT}
theorem TreeM.s_map (h : TreeM e u L T) (hk : KN C.u0 (m :: ph) u) : Seen C ph m (L .t) 0 (.s (.map (some (L .nb)))) := by
  obtain ⟨o, idsV, h1, e', rfl⟩ := h.at .t trivial
  exact seen_cell hk h1 rfl rfl
theorem TreeM.s_mark (h : TreeM e u L T) (hk : KN C.u0 (m :: ph) u) : Seen C ph m (L .t) 1 (.s (ptr (L .mk))) := by
  obtain ⟨o, idsV, h1, e', rfl⟩ := h.at .t trivial
  exact seen_cell hk h1 rfl rfl
theorem TreeM.s_last (h : TreeM e u L T) (hk : KN C.u0 (m :: ph) u) : Seen C ph m (L .t) 4 (.s (.int .i64 T.last)) := by
  obtain ⟨o, idsV, h1, e', rfl⟩ := h.at .t trivial
  exact seen_cell hk h1 rfl rfl
theorem TreeM.s_nodes (h : TreeM e u L T) (hk : KN C.u0 (m :: ph) u) : ∃ o, SeenO C ph m (L .nb) o ∧ MapI (some .i64) o (rawN L T.nodes) := by
  obtain ⟨o, idsV, h1, h2⟩ := h.at .nb trivial
  exact ⟨o, kn_seen hk h1, h2⟩
theorem TreeM.s_node (h : TreeM e u L T) (hk : KN C.u0 (m :: ph) u) {k : Int} {n : PN} (hn : T.get k = some n) :
    Seen C ph m (L (.nd k)) 0 (.s (.int .i64 n.parent)) ∧ Seen C ph m (L (.nd k)) 1 (.s (.string n.name)) ∧ Seen C ph m (L (.nd k)) 2 (.s (.map (some (L (.ab k))))) ∧ Seen C ph m (L (.nd k)) 3 (.s (.map (some (L (.kb k))))) ∧ Seen C ph m (L (.nd k)) 0 (gPlace ⟨n.parent, n.name⟩) := by
  obtain ⟨o, idsV, h1, h2⟩ := h.at (.nd k) ⟨n, hn⟩
  obtain ⟨e', rfl⟩ := h2 n hn
  refine ⟨seen_cell hk h1 rfl rfl, seen_cell hk h1 rfl rfl, seen_cell hk h1 rfl rfl, seen_cell hk h1 rfl rfl, seen_of hk h1 (gPlace_ok _) fun i w hi => ?_⟩
  match i, hi with
  | 0, hi => simpa [gPlace, GV.flat] using hi
  | 1, hi => simpa [gPlace, GV.flat] using hi
  | i + 2, hi => simp [gPlace, GV.flat] at hi
theorem TreeM.s_attrs (h : TreeM e u L T) (hk : KN C.u0 (m :: ph) u) {k : Int} {n : PN} (hn : T.get k = some n) : ∃ o, SeenO C ph m (L (.ab k)) o ∧ MapI none o (rawA n.attrs) := by
  obtain ⟨o, idsV, h1, h2⟩ := h.at (.ab k) ⟨n, hn⟩
  exact ⟨o, kn_seen hk h1, h2 n hn⟩
variable {σ : SS} {d : Option Nat} {K : KT}
/-- A node looked up. -/
theorem TreeM.lk (h : TreeM e u L T) (hk : KN C.u0 (σ.m :: σ.ph) u) (n : Int) (hK : K (σ.put d (.g (.s (nptr (T.get n) (L (.nd n))))))) : mlkK C (some .i64) (L .nb) (.int .i64 n) (.pointer none) false d K σ := by
  obtain ⟨o, h1, h2⟩ := h.s_nodes hk
  refine ⟨o, _, h1, h2, rfl, ?_⟩
  unfold lkS
  rw [mget_rawN]
  unfold PT.get at hK
  cases hg : getA T.nodes n with
  | none => rw [hg] at hK; exact hK
  | some x => rw [hg] at hK; exact hK
theorem TreeM.len (h : TreeM e u L T) (hk : KN C.u0 (σ.m :: σ.ph) u) (hK : K (σ.put d (.g (.s (.int .i64 T.nodes.length))))) : mlnK C (some .i64) (L .nb) d K σ := by
  obtain ⟨o, h1, h2⟩ := h.s_nodes hk
  refine ⟨o, _, h1, h2, ?_⟩
  rw [show (rawN L T.nodes).length = T.nodes.length by simp [rawN]]
  exact hK
end
end Go.Proofs.YtmjiojflncffeaaGreat.Vc

/- Stamps: what may be, nodes and their stamps. -/
set_option linter.unusedVariables false
set_option linter.unusedSimpArgs false
set_option maxRecDepth 100000
namespace Go.Proofs.YtmjiojflncffeaaGreat.Vc
open Go Go.Proofs

theorem b_eq {p q : Prop} [Decidable p] [Decidable q] (h : p ↔ q) : [GV.s (.bool (decide p))] = [GV.s (.bool (decide q))] := by rw [decide_eq_decide.2 h]
theorem b_f {q : Prop} [Decidable q] (h : ¬ q) : [GV.s (.bool false)] = [GV.s (.bool (decide q))] := by rw [decide_eq_false h]
def CheckP (s : Stamp) : Prop := 1 ≤ s.time ∧ s.time ≤ 1099511627776 ∧ 0 ≤ s.site ∧ s.site < 8
instance (s : Stamp) : Decidable (CheckP s) := inferInstanceAs (Decidable (_ ∧ _))
theorem check_fn (s : Stamp) : FnV Tryz.prog f_stamp_Check [gStamp s] [.s (.bool (decide (CheckP s)))] := by
  refine spec_fnv k_stamp_Check (by simp) (by simpa using gStamp_ok s) fun w => ?_
  simp (maxSteps := 2000000) only [c_stamp_Check, vc_ret, vc_seq, vc_rg, thenQ_n, kKeep_eq, segs_nil, segs_n, segs_g, ops_nil, ops_cons, vcOp, RO.isGh, skip_mk, skipL, ev, look, updL, put_mk, keep_mk, keepL, binV, binC, GV.getT, Value.oneCell', cond_true, cond_false, Nat.reduceEqDiff, ↓reduceIte, List.nil_append, Bool.true_and, Bool.not_true, Bool.not_false, true_and, initF, List.map_cons, List.map_nil, finW_r, resL, resOne, decide_eq_true_eq, decide_eq_false_iff_not, ↓br_tt, ↓br_ft, br_t, getT_nil, fits_s, gStamp_fld0, gStamp_get0, gStamp_fld1, gStamp_get1]
  unfold CheckP
  exact ⟨fun h1 => ⟨fun h2 => ⟨fun h3 => b_eq (by omega), fun h3 => b_f (by omega)⟩, fun h2 => b_f (by omega)⟩, fun h1 => b_f (by omega)⟩
/-- The number of the node that an operation makes. -/
def nodeA (s : Stamp) : Int := if CheckP s then 16 + s.time * 8 + s.site else 0
theorem wrap_i {x : Int} (h1 : -9223372036854775808 ≤ x) (h2 : x < 9223372036854775808) : IntKind.i64.wrap x = x := wrap64 (by omega) (by omega)
theorem node_end (s : Stamp) : ((!decide (CheckP s)) = true → [GV.s (Value.int IntKind.i64 0)] = [GV.s (Value.int IntKind.i64 (nodeA s))]) ∧
    ((!decide (CheckP s)) = false → [GV.s (Value.int IntKind.i64 (IntKind.i64.wrap (IntKind.i64.wrap (16 + IntKind.i64.wrap (s.time * 8)) + s.site)))] = [GV.s (Value.int IntKind.i64 (nodeA s))]) := by
  refine ⟨fun h => ?_, fun h => ?_⟩
  · have h : ¬ CheckP s := by simpa using h
    rw [nodeA, if_neg h]
  · have h : CheckP s := by simpa using h
    rw [nodeA, if_pos h]
    obtain ⟨h1, h2, h3, h4⟩ := h
    rw [wrap_i (x := s.time * 8) (by omega) (by omega), wrap_i (x := 16 + s.time * 8) (by omega) (by omega), wrap_i (by omega) (by omega)]
theorem node_fn (s : Stamp) : FnV Tryz.prog f_stamp_Node [gStamp s] [.s (.int .i64 (nodeA s))] := by
  refine spec_fnv k_stamp_Node (by simp) (by simpa using gStamp_ok s) fun w => ?_
  simp (maxSteps := 2000000) only [c_stamp_Node, vc_seq, vc_rg, thenQ_n, kKeep_eq, segs_nil, segs_n, ops_nil, ops_cons, vcOp, ev, look, updL, put_mk, keep_mk, keepL, Value.oneCell', cond_true, Nat.reduceEqDiff, ↓reduceIte, Bool.true_and, true_and, initF, List.map_cons, List.map_nil, getT_nil, gStamp_fits]
  refine call_fnv (check_fn s) rfl rfl rfl fun _ => ?_
  simp (maxSteps := 2000000) only [retS, vc_skip, vc_ret, vc_seq, vc_rg, vc_ite, thenQ_n, thenQ_r, kKeep_eq, segs_nil, segs_n, ops_nil, ops_cons, vcOp, ev, look, put_mk, keep_mk, keepL, binV, binC, unV, GV.getT, Value.oneCell', cond_true, Nat.reduceEqDiff, ↓reduceIte, List.nil_append, Bool.true_and, Bool.not_false, true_and, finW_r, resL, resOne, br_t, getT_nil, fits_s, gStamp_fld0, gStamp_get0, gStamp_fld1, gStamp_get1]
  exact node_end s
/-- The stamp of a node. -/
def ofA (n : Int) : Stamp := ⟨(n - 16) / 8, (n - 16) % 8⟩
def MadeP (n : Int) : Prop := 16 ≤ n ∧ CheckP (ofA n)
instance (n : Int) : Decidable (MadeP n) := inferInstanceAs (Decidable (_ ∧ _))
theorem tdiv_of {x : Int} (h : 0 ≤ x) (k : Int) : x.tdiv k = x / k := Int.tdiv_eq_ediv_of_nonneg h
theorem tmod_of {x : Int} (h : 0 ≤ x) (k : Int) : x.tmod k = x % k := Int.tmod_eq_emod_of_nonneg h
theorem of_eq {n : Int} (h1 : ¬ n < 16) (h2 : n < 9223372036854775808) : (⟨IntKind.i64.wrap ((IntKind.i64.wrap (n - 16)).tdiv 8), (IntKind.i64.wrap (n - 16)).tmod 8⟩ : Stamp) = ofA n := by
  rw [wrap_i (x := n - 16) (by omega) (by omega), tdiv_of (by omega), tmod_of (by omega), wrap_i (by omega) (by omega)]; rfl
theorem of_fn (n : Int) (hn : n < 9223372036854775808) : FnV Tryz.prog f_stamp_Of [.s (.int .i64 n)] [gStamp (if MadeP n then ofA n else zStamp), .s (.bool (decide (MadeP n)))] := by
  refine spec_fnv k_stamp_Of (by simp) (by simp [GV.ok, Value.oneCell']) fun w => ?_
  simp (maxSteps := 2000000) only [c_stamp_Of, vc_skip, vc_ret, vc_seq, vc_rg, vc_ite, thenQ_n, thenQ_r, kKeep_eq, segs_nil, segs_n, ops_nil, ops_cons, vcOp, ev, evL, gvL, look, updL, put_mk, put_mk0, keep_mk, keepL, binV, binC, GV.getT, Value.oneCell', cond_true, Nat.reduceEqDiff, ↓reduceIte, reduceCtorEq, Bool.and_true, Bool.true_and, true_and, and_true, initF, List.map_cons, List.map_nil, Option.map_some, finW_r, resL, resOne, Option.bind_some, Int.reduceEq, decide_eq_true_eq, decide_eq_false_iff_not, ne_eq, not_false_eq_true, br_t, GV.bldT, GV.bldC, same_int, getT_nil, setT_nil, get_nil, gStamp_sz, gStamp_fits, gStamp_same, gStamp_get0, gStamp_set0, gStamp_get1, gStamp_set1, gStamp_zero]
  refine ⟨fun h1 => ?_, fun h1 => ⟨⟨rfl, rfl⟩, ?_⟩⟩
  · have h : ¬ MadeP n := fun h => by have := h.1; omega
    rw [if_neg h, decide_eq_false h]
  rw [of_eq h1 hn]
  refine call_fnv (check_fn (ofA n)) rfl rfl rfl fun _ => ?_
  simp (maxSteps := 2000000) only [retS, vc_skip, vc_ret, vc_seq, vc_rg, vc_ite, thenQ_n, thenQ_r, kKeep_eq, segs_nil, segs_n, ops_nil, ops_cons, vcOp, ev, evL, gvL, look, updL, put_mk, put_mk0, keep_mk, keepL, unV, Value.oneCell', cond_true, Nat.reduceEqDiff, ↓reduceIte, Bool.and_true, Bool.true_and, true_and, and_true, List.map_nil, finW_r, resL, resOne, Option.bind_some, br_t, GV.bldT, GV.bldC, getT_nil, setT_nil, get_nil, gStamp_sz, gStamp_fits, gStamp_same]
  refine ⟨fun h2 => ?_, fun h2 => ?_⟩
  · have h2 : ¬ CheckP (ofA n) := by simpa using h2
    have h : ¬ MadeP n := fun h => h2 h.2
    rw [if_neg h, decide_eq_false h]
  · have h2 : CheckP (ofA n) := by simpa using h2
    have h : MadeP n := ⟨by omega, h2⟩
    rw [if_pos h, decide_eq_true h]
theorem made_fn (n : Int) (hn : n < 9223372036854775808) : FnV Tryz.prog f_stamp_made [.s (.int .i64 n)] [.s (.bool (decide (MadeP n)))] := by
  refine spec_fnv k_stamp_made (by simp) (by simp [GV.ok, Value.oneCell']) fun w => ?_
  simp (maxSteps := 2000000) only [c_stamp_made, vc_seq, vc_rg, thenQ_n, kKeep_eq, segs_nil, segs_n, ops_nil, ops_cons, vcOp, ev, look, put_mk, keep_mk, keepL, Value.oneCell', cond_true, ↓reduceIte, reduceCtorEq, initF, List.map_cons, List.map_nil, gStamp_zero]
  refine call_fnv (of_fn n hn) rfl rfl rfl fun _ => ?_
  simp (maxSteps := 2000000) only [retS, List.getElem?_cons_zero, List.getElem?_cons_succ, vc_ret, vc_seq, vc_rg, thenQ_n, kKeep_eq, segs_nil, segs_n, ops_nil, ops_cons, vcOp, ev, look, updL, put_mk, put_mk0, keep_mk, keepL, Nat.reduceEqDiff, ↓reduceIte, Bool.and_true, and_true, finW_r, resL, resOne, getT_nil, setT_nil, gStamp_sz, gStamp_same]
theorem stop_fn (n : Int) : FnV Tryz.prog f_stamp_top [.s (.int .i64 n)] [.s (.bool (n == 1 || n == 2))] := by
  refine spec_fnv k_stamp_top (by simp) (by simp [GV.ok, Value.oneCell']) fun w => ?_
  simp (maxSteps := 2000000) only [c_stamp_top, vc_ret, vc_seq, vc_rg, thenQ_n, kKeep_eq, segs_nil, segs_n, segs_g, ops_nil, ops_cons, vcOp, RO.isGh, skip_mk, skipL, ev, look, put_mk, keep_mk, keepL, binV, binC, Value.oneCell', cond_true, cond_false, Nat.reduceEqDiff, ↓reduceIte, reduceCtorEq, Bool.true_and, Bool.not_false, true_and, initF, List.map_cons, List.map_nil, finW_r, resL, resOne, ↓br_tt, ↓br_ft, br_f]
  cases (n == 1) <;> simp
end Go.Proofs.YtmjiojflncffeaaGreat.Vc

/-
  DERIVED: THE SHELF's CONTRACTS AT THIS DUMP, IN PLAIN WORDS (tools/lay-plain.mjs out of 'TryzShelf13c.lean', which tools/lay-shelf.mjs wrote): THE SAME DECLARATIONS UNDER THE SAME NAMES: 'import', 'namespace', 'open', 'def', 'theorem' AND NOTHING ELSE: no command of the shelf's: FOR A HAND-IN. Each laying: the table of numbers ('.._ren') and one theorem, a field a fact of the dump's own or the kernel's comparison; each contract: ONE APPLICATION.
-/
namespace Go.Proofs
open Go.Shelf
def Tryz.lays144_ren : Go.Shelf.Ren := ⟨fun | 144 => 128 | 143 => 146 | 219 => 161 | 217 => 174 | 225 => 175 | 224 => 176 | 267 => 177 | 266 => 183 | 314 => 184 | n => n, fun | 9 => 9 | 4 => 4 | 3 => 3 | 5 => 5 | 46 => 142 | 146 => 223 | 51 => 178 | n => n, fun | 1 => 0 | n => n⟩
theorem Tryz.lays144 : Go.Proofs.Lays.n144 Tryz.prog Tryz.lays144_ren := {
  mixed := by kernel_rfl
  f143 := Tryz.func146.trans (congrArg some (by kernel_rfl))
  f144 := Tryz.func128.trans (congrArg some (by kernel_rfl))
  f217 := Tryz.func174.trans (congrArg some (by kernel_rfl))
  f219 := Tryz.func161.trans (congrArg some (by kernel_rfl))
  f224 := Tryz.func176.trans (congrArg some (by kernel_rfl))
  f225 := Tryz.func175.trans (congrArg some (by kernel_rfl))
  f266 := Tryz.func183.trans (congrArg some (by kernel_rfl))
  f267 := Tryz.func177.trans (congrArg some (by kernel_rfl))
  f314 := Tryz.func184.trans (congrArg some (by kernel_rfl))
  t3 := Tryz.underlying3
  a3 := Tryz.isAgg3
  z3 := Tryz.sizeOf3
  v3 := Tryz.zeroValue3
  t4 := Tryz.underlying4
  a4 := Tryz.isAgg4
  z4 := Tryz.sizeOf4
  v4 := Tryz.zeroValue4
  t5 := Tryz.underlying5
  a5 := Tryz.isAgg5
  z5 := Tryz.sizeOf5
  v5 := Tryz.zeroValue5
  t9 := Tryz.underlying9
  a9 := Tryz.isAgg9
  z9 := Tryz.sizeOf9
  v9 := Tryz.zeroValue9
  t46 := Tryz.underlying142
  a46 := Tryz.isAgg142
  z46 := Tryz.sizeOf142
  v46 := Tryz.zeroValue142
  t51 := Tryz.underlying178
  a51 := Tryz.isAgg178
  z51 := Tryz.sizeOf178
  v51 := Tryz.zeroValue178
  t146 := Tryz.underlying223
  a146 := Tryz.isAgg223
  z146 := Tryz.sizeOf223
  v146 := Tryz.zeroValue223
  g1 := by kernel_rfl }
end Go.Proofs

/- Which operations may be: the program's answer and the document's are one. -/
set_option linter.unusedVariables false
set_option linter.unusedSimpArgs false
set_option maxRecDepth 100000
namespace Go.Proofs.YtmjiojflncffeaaGreat.Vc
open Go Go.Proofs

theorem contains_ib (n : List UInt8) : decide (0 ≤ Lib.indexByte n 47) = n.contains 47 := by
  induction n with
  | nil => rfl
  | cons b l ih =>
    have hg := Lib.indexByte_ge l 47
    have e : Lib.indexByte (b :: l) 47 = if b == 47 then 0 else if Lib.indexByte l 47 == -1 then -1 else Lib.indexByte l 47 + 1 := rfl
    rw [e, List.contains_cons]
    by_cases hb : b = 47
    · subst hb; rfl
    · have h1 : (b == 47) = false := by simpa using hb
      have h2 : ((47 : UInt8) == b) = false := by simpa using fun h => hb h.symm
      rw [h1, h2, Bool.false_or, ← ih]
      simp only [Bool.false_eq_true, if_false]
      by_cases hi : Lib.indexByte l 47 = -1
      · rw [hi]; rfl
      · have h3 : (Lib.indexByte l 47 == -1) = false := by simpa using hi
        rw [h3]
        simp only [Bool.false_eq_true, if_false]
        rw [decide_eq_decide]; omega
theorem contains_fn (n : List UInt8) : FnV Tryz.prog 128 [gN n, .s (.string ⟨#[47]⟩)] [.s (.bool (n.contains 47))] := fun w _ =>
  (Go.Proofs.Any.strings_Contains_one Tryz.lays144 (mkS n) 47 w).mono fun e w' ⟨he, hw⟩ => by
    subst hw
    exact ⟨_, PH.no, by rw [he, mkS_list, contains_ib]; rfl, fun r hr => by simp at hr; subst hr; rfl, rfl, fun _ _ h => (by cases h), fun _ h => absurd rfl h, Kept.refl _ _⟩
/-- What is wrong with a name. -/
def nameE (n : List UInt8) : Int := if 255 < n.length then 3 else if nameA n then 0 else 1
theorem nameE_long {n : List UInt8} (h : 255 < n.length) : nameE n = 3 := if_pos h
theorem nameE_bad {n : List UInt8} (h : ¬ 255 < n.length) (h2 : nameA n = false) : nameE n = 1 := by rw [nameE, if_neg h, h2]; rfl
theorem nameE_ok {n : List UInt8} (h2 : nameA n = true) : nameE n = 0 := by rw [nameE, if_neg (by have := nameA_len h2; omega), h2]; rfl
/-- What is wrong with where an operation puts its node. -/
def placeE (op : Op) : Int :=
  if ¬ (op.parent = 1 ∨ op.parent = 2) ∧ ¬ MadeP op.parent then 1
  else if nameE op.name.data.toList ≠ 0 then nameE op.name.data.toList
  else if op.key ≠ ⟨#[]⟩ ∨ op.value ≠ ⟨#[]⟩ then 1 else 0
structure OpIn (op : Op) : Prop where
  node : op.node < 9223372036854775808
  parent : op.parent < 9223372036854775808
  name : op.name.size ≤ 140737488355328
theorem containsB_fn (b : ByteArray) : FnV Tryz.prog 128 [.s (.string b), .s (.string ⟨#[47]⟩)] [.s (.bool (b.data.toList.contains 47))] := by
  have := contains_fn b.data.toList
  rwa [gN, mkS_of] at this
section
variable {op : Op}
theorem placeE_par (h : ¬ (op.parent = 1 ∨ op.parent = 2) ∧ ¬ MadeP op.parent) : placeE op = 1 := if_pos h
theorem placeE_name (h : ¬ (¬ (op.parent = 1 ∨ op.parent = 2) ∧ ¬ MadeP op.parent)) (hn : nameE op.name.data.toList ≠ 0) : placeE op = nameE op.name.data.toList := by rw [placeE, if_neg h, if_pos hn]
theorem placeE_kv (h : ¬ (¬ (op.parent = 1 ∨ op.parent = 2) ∧ ¬ MadeP op.parent)) (hn : nameE op.name.data.toList = 0) (hk : op.key ≠ ⟨#[]⟩ ∨ op.value ≠ ⟨#[]⟩) : placeE op = 1 := by rw [placeE, if_neg h, if_neg (by rw [hn]; simp), if_pos hk]
theorem placeE_ok (h : ¬ (¬ (op.parent = 1 ∨ op.parent = 2) ∧ ¬ MadeP op.parent)) (hn : nameE op.name.data.toList = 0) (hk : ¬ (op.key ≠ ⟨#[]⟩ ∨ op.value ≠ ⟨#[]⟩)) : placeE op = 0 := by rw [placeE, if_neg h, if_neg (by rw [hn]; simp), if_neg hk]
end
theorem rplace_tail {op : Op} (hp : ¬ (¬ (op.parent = 1 ∨ op.parent = 2) ∧ ¬ MadeP op.parent)) : ((nameE op.name.data.toList != 0) = true →
      [GV.s (Value.int IntKind.i64 (nameE op.name.data.toList))] = [GV.s (Value.int IntKind.i64 (placeE op))]) ∧
    ((nameE op.name.data.toList != 0) = false →
      ((!decide (op.key = { data := #[] })) = false →
          ((!decide (op.value = { data := #[] })) = true → [GV.s (Value.int IntKind.i64 1)] = [GV.s (Value.int IntKind.i64 (placeE op))]) ∧
            ((!decide (op.value = { data := #[] })) = false → [GV.s (Value.int IntKind.i64 0)] = [GV.s (Value.int IntKind.i64 (placeE op))])) ∧
        ((!decide (op.key = { data := #[] })) = true → [GV.s (Value.int IntKind.i64 1)] = [GV.s (Value.int IntKind.i64 (placeE op))])) := by
  simp only [bne_iff_ne, ne_eq, bne_eq_false_iff_eq, Bool.not_eq_true', Bool.not_eq_false', decide_eq_false_iff_not, decide_eq_true_eq]
  refine ⟨fun h => by rw [placeE_name hp h], fun h => ⟨fun hk => ⟨fun hv => by rw [placeE_kv hp h (.inr hv)], fun hv => by rw [placeE_ok hp h (by rintro (h1 | h1); exact h1 hk; exact h1 hv)]⟩, fun hk => by rw [placeE_kv hp h (.inl hk)]⟩⟩
theorem place_fn (op : Op) (hop : OpIn op) : FnV Tryz.prog f_stamp_place [gOp op] [.s (.int .i64 (placeE op))] := by
  refine spec_fnv k_stamp_place (by simp) (by simpa using gOp_ok op) fun w => ?_
  simp (maxSteps := 2000000) only [c_stamp_place, vc_seq, vc_block, vc_rg, thenQ_n, kKeep_eq, segs_nil, segs_n, ops_nil, ops_cons, vcOp, ev, look, updL, put_mk, keep_mk, keepL, GV.getT, Value.oneCell', cond_true, Nat.reduceEqDiff, ↓reduceIte, List.nil_append, Bool.true_and, Bool.not_false, true_and, initF, List.map_cons, List.map_nil, getT_nil, fits_s, gOp_fld3, gOp_get3]
  refine call_fnv (stop_fn op.parent) rfl rfl rfl fun _ => ?_
  simp (maxSteps := 2000000) only [retS, vc_ret, vc_seq, vc_rg, vc_ite, thenQ_n, thenQ_r, blockQ_r, kKeep_eq, segs_nil, segs_n, segs_g, ops_nil, ops_cons, vcOp, RO.isGh, skip_mk, skipL, ev, look, put_mk, keep_mk, keepL, binV, binC, unV, GV.getT, Value.oneCell', cond_true, cond_false, Nat.reduceEqDiff, ↓reduceIte, List.nil_append, Bool.true_and, Bool.not_true, Bool.not_false, true_and, finW_r, resL, resOne, decide_eq_true_eq, decide_eq_false_iff_not, ↓br_tt, ↓br_tf, ↓br_ft, br_t, br_f, getT_nil, fits_s, gOp_fld3, gOp_get3, gOp_fld4, gOp_get4]
  refine ⟨fun h1 => ?_, fun h1 => ?_⟩
  · have h1 : ¬ (op.parent = 1 ∨ op.parent = 2) := by simpa using h1
    refine call_fnv (made_fn op.parent hop.parent) rfl rfl rfl fun _ => ?_
    simp (maxSteps := 2000000) only [retS, vc_ret, vc_seq, vc_rg, vc_ite, thenQ_n, thenQ_r, blockQ_r, kKeep_eq, segs_nil, segs_n, segs_g, ops_nil, ops_cons, vcOp, RO.isGh, skip_mk, skipL, ev, look, put_mk, keep_mk, keepL, binV, binC, unV, GV.getT, Value.oneCell', cond_true, cond_false, Nat.reduceEqDiff, ↓reduceIte, List.nil_append, Bool.true_and, Bool.not_false, true_and, finW_r, resL, resOne, decide_eq_true_eq, decide_eq_false_iff_not, ↓br_tt, ↓br_tf, ↓br_ft, br_t, br_f, getT_nil, fits_s, gOp_fld4, gOp_get4]
    refine ⟨fun h2 => ?_, fun h2 => ?_⟩
    · have h2 : ¬ MadeP op.parent := by simpa using h2
      rw [placeE_par ⟨h1, h2⟩]
    have h2 : MadeP op.parent := by simpa using h2
    have hp : ¬ (¬ (op.parent = 1 ∨ op.parent = 2) ∧ ¬ MadeP op.parent) := fun h => h.2 h2
    refine ⟨fun h3 => ?_, fun h3 => ?_⟩
    · have hn : nameE op.name.data.toList = 3 := nameE_long (by rw [Array.length_toList]; have : op.name.data.size = op.name.size := rfl; omega)
      rw [placeE_name hp (by rw [hn]; decide), hn]
    have hl : ¬ 255 < op.name.data.toList.length := by rw [Array.length_toList]; have : op.name.data.size = op.name.size := rfl; omega
    have bad : nameA op.name.data.toList = false → [GV.s (Value.int .i64 1)] = [GV.s (Value.int .i64 (placeE op))] := fun h => by
      have hn := nameE_bad hl h
      rw [placeE_name hp (by rw [hn]; decide), hn]
    refine ⟨fun h4 => ⟨fun h5 => ⟨fun h6 => ?_, fun h6 => ?_⟩, fun h5 => ?_⟩, fun h4 => ?_⟩
    · refine call_fnv (containsB_fn op.name) rfl rfl rfl fun _ => ?_
      simp (maxSteps := 2000000) only [retS, vc_skip, vc_ret, vc_seq, vc_rg, vc_ite, thenQ_n, thenQ_r, blockQ_n, blockQ_r, kKeep_eq, segs_nil, segs_n, segs_g, ops_nil, ops_cons, vcOp, RO.isGh, skip_mk, skipL, ev, look, put_mk, keep_mk, keepL, binV, binC, GV.getT, Value.oneCell', cond_true, cond_false, Nat.reduceEqDiff, ↓reduceIte, List.nil_append, Bool.true_and, Bool.not_false, true_and, finW_r, resL, resOne, ↓br_tt, ↓br_tf, ↓br_ft, br_t, br_f, getT_nil, fits_s, gOp_fld5, gOp_get5, gOp_fld6, gOp_get6]
      have hgood : op.name.data.toList.contains 47 = false → nameE op.name.data.toList = 0 := fun h => by
        refine nameE_ok ?_
        rw [nameA, h]
        have e0 : op.name.data.toList ≠ [] := fun e => h4 (by rw [← mkS_of op.name, e]; rfl)
        have e1 : op.name.data.toList ≠ [46] := fun e => h5 (by rw [← mkS_of op.name, e]; rfl)
        have e2 : op.name.data.toList ≠ [46, 46] := fun e => h6 (by rw [← mkS_of op.name, e]; rfl)
        simp only [List.isEmpty_eq_false_iff.2 e0, beq_false_of_ne e1, beq_false_of_ne e2, decide_eq_true (show op.name.data.toList.length ≤ 255 by omega), Bool.not_false, Bool.and_self]
      exact ⟨fun hc => (rplace_tail hp).2 (by rw [hgood hc]; rfl), fun hc => bad (by rw [nameA, hc]; simp)⟩
    · exact bad (nameA_bad (.inr (.inr (.inr (by rw [h6]))))) 
    · exact bad (nameA_bad (.inr (.inr (.inl (by rw [h5])))))
    · exact bad (nameA_bad (.inl (by rw [h4])))
  · have h1 : op.parent = 1 ∨ op.parent = 2 := by
      by_cases e : op.parent = 1
      · exact .inl e
      · exact .inr (by simpa [e] using h1)
    have hp : ¬ (¬ (op.parent = 1 ∨ op.parent = 2) ∧ ¬ MadeP op.parent) := fun h => h.1 h1
    refine ⟨fun h3 => ?_, fun h3 => ?_⟩
    · have hn : nameE op.name.data.toList = 3 := nameE_long (by rw [Array.length_toList]; have : op.name.data.size = op.name.size := rfl; omega)
      rw [placeE_name hp (by rw [hn]; decide), hn]
    have hl : ¬ 255 < op.name.data.toList.length := by rw [Array.length_toList]; have : op.name.data.size = op.name.size := rfl; omega
    have bad : nameA op.name.data.toList = false → [GV.s (Value.int .i64 1)] = [GV.s (Value.int .i64 (placeE op))] := fun h => by
      have hn := nameE_bad hl h
      rw [placeE_name hp (by rw [hn]; decide), hn]
    refine ⟨fun h4 => ⟨fun h5 => ⟨fun h6 => ?_, fun h6 => ?_⟩, fun h5 => ?_⟩, fun h4 => ?_⟩
    · refine call_fnv (containsB_fn op.name) rfl rfl rfl fun _ => ?_
      simp (maxSteps := 2000000) only [retS, vc_skip, vc_ret, vc_seq, vc_rg, vc_ite, thenQ_n, thenQ_r, blockQ_n, blockQ_r, kKeep_eq, segs_nil, segs_n, segs_g, ops_nil, ops_cons, vcOp, RO.isGh, skip_mk, skipL, ev, look, put_mk, keep_mk, keepL, binV, binC, GV.getT, Value.oneCell', cond_true, cond_false, Nat.reduceEqDiff, ↓reduceIte, List.nil_append, Bool.true_and, Bool.not_false, true_and, finW_r, resL, resOne, ↓br_tt, ↓br_tf, ↓br_ft, br_t, br_f, getT_nil, fits_s, gOp_fld5, gOp_get5, gOp_fld6, gOp_get6]
      have hgood : op.name.data.toList.contains 47 = false → nameE op.name.data.toList = 0 := fun h => by
        refine nameE_ok ?_
        rw [nameA, h]
        have e0 : op.name.data.toList ≠ [] := fun e => h4 (by rw [← mkS_of op.name, e]; rfl)
        have e1 : op.name.data.toList ≠ [46] := fun e => h5 (by rw [← mkS_of op.name, e]; rfl)
        have e2 : op.name.data.toList ≠ [46, 46] := fun e => h6 (by rw [← mkS_of op.name, e]; rfl)
        simp only [List.isEmpty_eq_false_iff.2 e0, beq_false_of_ne e1, beq_false_of_ne e2, decide_eq_true (show op.name.data.toList.length ≤ 255 by omega), Bool.not_false, Bool.and_self]
      exact ⟨fun hc => (rplace_tail hp).2 (by rw [hgood hc]; rfl), fun hc => bad (by rw [nameA, hc]; simp)⟩
    · exact bad (nameA_bad (.inr (.inr (.inr (by rw [h6]))))) 
    · exact bad (nameA_bad (.inr (.inr (.inl (by rw [h5])))))
    · exact bad (nameA_bad (.inl (by rw [h4])))
end Go.Proofs.YtmjiojflncffeaaGreat.Vc

/- stamp.CheckOp and the document's are one. -/
set_option linter.unusedVariables false
set_option linter.unusedSimpArgs false
set_option maxRecDepth 100000
namespace Go.Proofs.YtmjiojflncffeaaGreat.Vc
open Go Go.Proofs

/-- What is wrong with an operation. -/
def checkE (op : Op) : Int :=
  if ¬ CheckP op.stamp ∨ op.kind < 1 ∨ 3 < op.kind ∨ (op.kind = 1 ∧ op.node ≠ nodeA op.stamp) then 1
  else if op.kind ≠ 3 then (if placeE op ≠ 0 then placeE op else if op.kind = 2 ∧ ¬ MadeP op.node then 1 else 0)
  else if ¬ (op.node = 1 ∨ op.node = 2) ∧ ¬ MadeP op.node then 1
  else if 255 < op.key.size ∨ 255 < op.value.size then 3
  else if op.key = ⟨#[]⟩ ∨ op.parent ≠ 0 ∨ op.name ≠ ⟨#[]⟩ then 1 else 0
theorem checkE_a {op : Op} (h : ¬ CheckP op.stamp ∨ op.kind < 1 ∨ 3 < op.kind ∨ (op.kind = 1 ∧ op.node ≠ nodeA op.stamp)) : checkE op = 1 := if_pos h
def Well (op : Op) : Prop := ¬ (¬ CheckP op.stamp ∨ op.kind < 1 ∨ 3 < op.kind ∨ (op.kind = 1 ∧ op.node ≠ nodeA op.stamp))
theorem checkE_place {op : Op} (h : Well op) (k : op.kind ≠ 3) (hp : placeE op ≠ 0) : checkE op = placeE op := by rw [checkE, if_neg h, if_pos k, if_pos hp]
theorem checkE_move {op : Op} (h : Well op) (k : op.kind ≠ 3) (hp : placeE op = 0) (hm : op.kind = 2 ∧ ¬ MadeP op.node) : checkE op = 1 := by rw [checkE, if_neg h, if_pos k, if_neg (by rw [hp]; simp), if_pos hm]
theorem checkE_moved {op : Op} (h : Well op) (k : op.kind ≠ 3) (hp : placeE op = 0) (hm : ¬ (op.kind = 2 ∧ ¬ MadeP op.node)) : checkE op = 0 := by rw [checkE, if_neg h, if_pos k, if_neg (by rw [hp]; simp), if_neg hm]
theorem checkE_node {op : Op} (h : Well op) (k : op.kind = 3) (hn : ¬ (op.node = 1 ∨ op.node = 2) ∧ ¬ MadeP op.node) : checkE op = 1 := by rw [checkE, if_neg h, if_neg (by simp [k]), if_pos hn]
theorem checkE_long {op : Op} (h : Well op) (k : op.kind = 3) (hn : ¬ (¬ (op.node = 1 ∨ op.node = 2) ∧ ¬ MadeP op.node)) (hl : 255 < op.key.size ∨ 255 < op.value.size) : checkE op = 3 := by rw [checkE, if_neg h, if_neg (by simp [k]), if_neg hn, if_pos hl]
theorem checkE_rest {op : Op} (h : Well op) (k : op.kind = 3) (hn : ¬ (¬ (op.node = 1 ∨ op.node = 2) ∧ ¬ MadeP op.node)) (hl : ¬ (255 < op.key.size ∨ 255 < op.value.size)) : checkE op = if op.key = ⟨#[]⟩ ∨ op.parent ≠ 0 ∨ op.name ≠ ⟨#[]⟩ then 1 else 0 := by rw [checkE, if_neg h, if_neg (by simp [k]), if_neg hn, if_neg hl]
theorem attr_tail {op : Op} (hW : Well op) (hk : op.kind = 3) (hn : ¬ (¬ (op.node = 1 ∨ op.node = 2) ∧ ¬ MadeP op.node)) : (¬(op.key.size : Int) > 255 →
      ((op.value.size : Int) > 255 → [GV.s (Value.int IntKind.i64 3)] = [GV.s (Value.int IntKind.i64 (checkE op))]) ∧
        (¬(op.value.size : Int) > 255 →
          (¬op.key = { data := #[] } →
              ((op.parent != 0) = false →
                  ((!decide (op.name = { data := #[] })) = true →
                      [GV.s (Value.int IntKind.i64 1)] = [GV.s (Value.int IntKind.i64 (checkE op))]) ∧
                    ((!decide (op.name = { data := #[] })) = false →
                      [GV.s (Value.int IntKind.i64 0)] = [GV.s (Value.int IntKind.i64 (checkE op))])) ∧
                ((op.parent != 0) = true →
                  [GV.s (Value.int IntKind.i64 1)] = [GV.s (Value.int IntKind.i64 (checkE op))])) ∧
            (op.key = { data := #[] } →
              [GV.s (Value.int IntKind.i64 1)] = [GV.s (Value.int IntKind.i64 (checkE op))]))) ∧
    ((op.key.size : Int) > 255 → [GV.s (Value.int IntKind.i64 3)] = [GV.s (Value.int IntKind.i64 (checkE op))]) := by
  by_cases hl : 255 < op.key.size ∨ 255 < op.value.size
  · rw [checkE_long hW hk hn hl]
    exact ⟨fun h1 => ⟨fun _ => rfl, fun h2 => by omega⟩, fun _ => rfl⟩
  · rw [checkE_rest hW hk hn hl]
    refine ⟨fun h1 => ⟨fun h2 => by omega, fun h2 => ⟨fun h3 => ⟨fun h4 => ⟨fun h5 => ?_, fun h5 => ?_⟩, fun h4 => ?_⟩, fun h3 => ?_⟩⟩, fun h => by omega⟩
    · rw [if_pos (.inr (.inr (by simpa using h5)))]
    · rw [if_neg]
      rintro (h | h | h)
      · exact h3 h
      · exact h (by simpa using h4)
      · exact h (by simpa using h5)
    · rw [if_pos (.inr (.inl (by simpa using h4)))]
    · rw [if_pos (.inl h3)]
theorem kind5 (k : Int) : k < 1 ∨ k = 1 ∨ k = 2 ∨ k = 3 ∨ 3 < k := by omega
theorem checkOp_fn (op : Op) (hop : OpIn op) : FnV Tryz.prog f_stamp_CheckOp [gOp op] [.s (.int .i64 (checkE op))] := by
  refine spec_fnv k_stamp_CheckOp (by simp) (by simpa using gOp_ok op) fun w => ?_
  simp (maxSteps := 2000000) only [c_stamp_CheckOp, vc_seq, vc_rg, vc_rgq, thenQ_n, kKeep_eq, segs_nil, segs_n, ops_nil, ops_cons, qsegs_n, qops_cons, vcqOp, vcOp, isRd, ev, look, updL, put_mk, keep_mk, keepL, Value.oneCell', cond_true, Nat.reduceEqDiff, ↓reduceIte, List.nil_append, Bool.true_and, true_and, initF, List.map_cons, List.map_nil, getT_nil, gStamp_fits, gOp_fld0, gOp_get0]
  refine callq_fnv (check_fn op.stamp) rfl rfl rfl ?_
  by_cases hc : CheckP op.stamp
  case neg =>
    simp (maxSteps := 2000000) only [decide_eq_false hc, vc_ret, vc_seq, vc_rg, vc_ite, thenQ_n, thenQ_r, kKeep_eq, segs_nil, segs_n, segs_g, ops_nil, ops_cons, qsegs_nil, qsegs_n, qsegs_g, qops_nil, qops_cons, vcqOp, vcOp, isRd, RO.isGh, skip_mk, skipL, ev, look, put_mk, keep_mk, keepL, unV, Value.oneCell', cond_true, cond_false, Nat.reduceEqDiff, ↓reduceIte, Bool.true_and, Bool.not_false, true_and, finW_r, resL, resOne, ↓br_tt, ↓br_tf]
    rw [checkE_a (.inl hc)]
  rcases kind5 op.kind with hk | hk | hk | hk | hk
  · simp (maxSteps := 2000000) only [decide_eq_true hc, hk, vc_ret, vc_seq, vc_rg, vc_ite, thenQ_n, thenQ_r, kKeep_eq, segs_nil, segs_n, segs_g, ops_nil, ops_cons, qsegs_nil, qsegs_n, qsegs_g, qops_nil, qops_cons, vcqOp, vcOp, isRd, RO.isGh, skip_mk, skipL, ev, look, put_mk, keep_mk, keepL, binV, binC, unV, GV.getT, Value.oneCell', cond_true, cond_false, Nat.reduceEqDiff, ↓reduceIte, List.nil_append, Bool.true_and, Bool.not_true, Bool.not_false, decide_true, true_and, finW_r, resL, resOne, ↓br_tt, ↓br_ff, ↓br_tf, ↓br_ft, getT_nil, fits_s, gOp_fld1, gOp_get1]
    rw [checkE_a (.inr (.inl hk))]
  · simp (maxSteps := 2000000) only [decide_eq_true hc, hk, gt_iff_lt, qsegs_n, qsegs_g, qops_nil, qops_cons, vcqOp, vcOp, isRd, ev, look, put_mk, binV, binC, unV, GV.getT, Value.oneCell', cond_true, Nat.reduceEqDiff, ↓reduceIte, List.nil_append, Bool.true_and, Bool.not_true, Bool.not_false, BEq.rfl, decide_false, true_and, Int.reduceLT, ↓br_tt, ↓br_ff, ↓br_ft, getT_nil, fits_s, gStamp_fits, gOp_fld0, gOp_get0, gOp_fld1, gOp_get1, gOp_fld2, gOp_get2]
    refine callq_fnv (node_fn op.stamp) rfl rfl rfl ?_
    by_cases hn : op.node = nodeA op.stamp
    case neg =>
      simp (maxSteps := 2000000) only [decide_eq_true hc, bne_iff_ne.2 hn, vc_ret, vc_seq, vc_rg, vc_ite, thenQ_n, thenQ_r, kKeep_eq, segs_nil, segs_n, segs_g, ops_nil, ops_cons, qsegs_nil, qops_nil, vcOp, ev, look, put_mk, keep_mk, keepL, binV, binC, Value.oneCell', cond_true, Nat.reduceEqDiff, ↓reduceIte, Bool.true_and, true_and, finW_r, resL, resOne, ↓br_tt, ↓br_ff, ↓br_ft]
      rw [checkE_a (.inr (.inr (.inr ⟨hk, hn⟩)))]
    have hW : Well op := fun h => by rcases h with h | h | h | h <;> first | exact h hc | omega | exact h.2 hn
    simp (maxSteps := 2000000) only [decide_eq_true hc, hk, Int.reduceBNe, bne_eq_false_iff_eq.2 hn, vc_skip, vc_seq, vc_rg, vc_ite, thenQ_n, kKeep_eq, segs_nil, segs_n, segs_g, ops_nil, ops_cons, qsegs_nil, qops_nil, vcOp, ev, look, put_mk, keep_mk, keepL, binV, binC, GV.getT, Value.oneCell', cond_true, Nat.reduceEqDiff, ↓reduceIte, List.nil_append, Bool.true_and, Bool.not_false, true_and, ↓br_tt, ↓br_ff, ↓br_ft, getT_nil, fits_s, gOp_fits, gOp_fld1, gOp_get1]
    refine call_fnv (place_fn op hop) rfl rfl rfl fun _ => ?_
    by_cases hp : placeE op = 0
    case neg =>
      simp (maxSteps := 2000000) only [retS, bne_iff_ne.2 hp, vc_ret, vc_seq, vc_rg, vc_ite, thenQ_n, thenQ_r, kKeep_eq, segs_nil, segs_n, ops_nil, ops_cons, vcOp, ev, look, put_mk, keep_mk, keepL, binV, binC, Value.oneCell', cond_true, Nat.reduceEqDiff, ↓reduceIte, Bool.true_and, true_and, finW_r, resL, resOne, ↓br_tt]
      rw [checkE_place hW (by omega) hp]
    simp (maxSteps := 2000000) only [retS, Int.reduceBNe, Int.reduceBEq, hk, hp, vc_skip, vc_ret, vc_seq, vc_block, vc_rg, vc_ite, thenQ_n, blockQ_n, kKeep_eq, segs_nil, segs_n, ops_nil, ops_cons, vcOp, ev, look, put_mk, keep_mk, keepL, binV, binC, GV.getT, Value.oneCell', cond_true, Nat.reduceEqDiff, Nat.reduceBEq, ↓reduceIte, List.nil_append, Bool.true_and, Bool.not_false, true_and, finW_r, resL, resOne, ↓br_ft, getT_nil, fits_s, gOp_fld1, gOp_get1]
    rw [checkE_moved hW (by omega) hp (by omega)]
  · simp (maxSteps := 2000000) only [decide_eq_true hc, hk, gt_iff_lt, Int.reduceBNe, Int.reduceBEq, vc_skip, vc_seq, vc_rg, vc_ite, thenQ_n, kKeep_eq, segs_nil, segs_n, segs_g, ops_nil, ops_cons, qsegs_nil, qsegs_n, qsegs_g, qops_nil, qops_cons, vcqOp, vcOp, isRd, RO.isGh, skip_mk, skipL, ev, look, put_mk, keep_mk, keepL, binV, binC, unV, GV.getT, Value.oneCell', cond_true, cond_false, Nat.reduceEqDiff, Nat.reduceBEq, ↓reduceIte, List.nil_append, Bool.true_and, Bool.not_true, Bool.not_false, decide_false, true_and, Int.reduceLT, ↓br_tt, ↓br_ff, ↓br_ft, getT_nil, fits_s, gOp_fits, gOp_fld1, gOp_get1]
    have hW : Well op := fun h => by rcases h with h | h | h | h <;> first | exact h hc | omega
    refine call_fnv (place_fn op hop) rfl rfl rfl fun _ => ?_
    by_cases hp : placeE op = 0
    case neg =>
      simp (maxSteps := 2000000) only [retS, bne_iff_ne.2 hp, vc_ret, vc_seq, vc_rg, vc_ite, thenQ_n, thenQ_r, kKeep_eq, segs_nil, segs_n, ops_nil, ops_cons, vcOp, ev, look, put_mk, keep_mk, keepL, binV, binC, Value.oneCell', cond_true, Nat.reduceEqDiff, ↓reduceIte, Bool.true_and, true_and, finW_r, resL, resOne, ↓br_tt]
      rw [checkE_place hW (by omega) hp]
    simp (maxSteps := 2000000) only [retS, Int.reduceBNe, hk, hp, vc_skip, vc_seq, vc_block, vc_rg, vc_ite, thenQ_n, kKeep_eq, segs_nil, segs_n, ops_nil, ops_cons, vcOp, ev, look, put_mk, keep_mk, keepL, binV, binC, GV.getT, Value.oneCell', cond_true, Nat.reduceEqDiff, ↓reduceIte, List.nil_append, Bool.true_and, Bool.not_false, BEq.rfl, true_and, ↓br_tt, ↓br_ft, getT_nil, fits_s, gOp_fld1, gOp_get1, gOp_fld2, gOp_get2]
    refine call_fnv (made_fn op.node hop.node) rfl rfl rfl fun _ => ?_
    by_cases hm : MadeP op.node
    · simp (maxSteps := 2000000) only [retS, decide_eq_true hm, vc_skip, vc_ret, vc_seq, vc_rg, vc_ite, thenQ_n, blockQ_n, kKeep_eq, segs_nil, segs_n, ops_nil, ops_cons, vcOp, ev, look, put_mk, keep_mk, keepL, unV, Value.oneCell', cond_true, ↓reduceIte, Bool.not_true, finW_r, resL, resOne, ↓br_ft]
      rw [checkE_moved hW (by omega) hp (fun h => h.2 hm)]
    · simp (maxSteps := 2000000) only [retS, decide_eq_false hm, vc_ret, vc_seq, vc_rg, vc_ite, thenQ_n, thenQ_r, blockQ_r, kKeep_eq, segs_nil, segs_n, ops_nil, ops_cons, vcOp, ev, look, put_mk, keep_mk, keepL, unV, Value.oneCell', cond_true, ↓reduceIte, Bool.not_false, finW_r, resL, resOne, ↓br_tt]
      rw [checkE_move hW (by omega) hp ⟨hk, hm⟩]
  · simp (maxSteps := 2000000) only [decide_eq_true hc, hk, gt_iff_lt, Int.reduceBNe, Int.reduceBEq, vc_skip, vc_seq, vc_block, vc_rg, vc_ite, thenQ_n, kKeep_eq, segs_nil, segs_n, segs_g, ops_nil, ops_cons, qsegs_nil, qsegs_n, qsegs_g, qops_nil, qops_cons, vcqOp, vcOp, isRd, RO.isGh, skip_mk, skipL, ev, look, put_mk, keep_mk, keepL, binV, binC, unV, GV.getT, Value.oneCell', cond_true, cond_false, Nat.reduceEqDiff, Nat.reduceBEq, ↓reduceIte, List.nil_append, Bool.true_and, Bool.not_true, Bool.not_false, BEq.rfl, decide_false, true_and, Int.reduceLT, ↓br_tt, ↓br_ff, ↓br_ft, getT_nil, fits_s, gOp_fld1, gOp_get1, gOp_fld2, gOp_get2]
    have hW : Well op := fun h => by rcases h with h | h | h | h <;> first | exact h hc | omega
    refine call_fnv (made_fn op.node hop.node) rfl rfl rfl fun _ => ?_
    by_cases hm : MadeP op.node
    · simp (maxSteps := 2000000) only [retS, decide_eq_true hm, vc_skip, vc_ret, vc_seq, vc_rg, vc_ite, thenQ_n, thenQ_r, blockQ_n, blockQ_r, kKeep_eq, segs_nil, segs_n, segs_g, ops_nil, ops_cons, vcOp, RO.isGh, skip_mk, skipL, ev, look, put_mk, keep_mk, keepL, binV, binC, unV, GV.getT, Value.oneCell', cond_true, cond_false, Nat.reduceEqDiff, ↓reduceIte, List.nil_append, Bool.true_and, Bool.not_true, Bool.not_false, true_and, finW_r, resL, resOne, decide_eq_true_eq, decide_eq_false_iff_not, ↓br_tt, ↓br_tf, ↓br_ft, br_t, br_f, getT_nil, fits_s, gOp_fld3, gOp_get3, gOp_fld4, gOp_get4, gOp_fld5, gOp_get5, gOp_fld6, gOp_get6]
      exact attr_tail hW hk fun h => h.2 hm
    · simp (maxSteps := 2000000) only [retS, decide_eq_false hm, segs_g, ops_nil, ops_cons, vcOp, ev, look, put_mk, unV, GV.getT, Nat.reduceEqDiff, ↓reduceIte, List.nil_append, Bool.true_and, Bool.not_false, true_and, ↓br_tt, getT_nil, fits_s, gOp_fld2, gOp_get2]
      refine call_fnv (stop_fn op.node) rfl rfl rfl fun _ => ?_
      by_cases ht : op.node = 1 ∨ op.node = 2
      · simp (maxSteps := 2000000) only [retS, show (op.node == 1 || op.node == 2) = true by simpa using ht, vc_skip, vc_ret, vc_seq, vc_rg, vc_ite, thenQ_n, thenQ_r, blockQ_n, blockQ_r, kKeep_eq, segs_nil, segs_n, segs_g, ops_nil, ops_cons, vcOp, RO.isGh, skip_mk, skipL, ev, look, put_mk, keep_mk, keepL, binV, binC, unV, GV.getT, Value.oneCell', cond_true, cond_false, Nat.reduceEqDiff, ↓reduceIte, List.nil_append, Bool.true_and, Bool.not_true, Bool.not_false, true_and, finW_r, resL, resOne, decide_eq_true_eq, decide_eq_false_iff_not, ↓br_tt, ↓br_tf, ↓br_ft, br_t, br_f, getT_nil, fits_s, gOp_fld3, gOp_get3, gOp_fld4, gOp_get4, gOp_fld5, gOp_get5, gOp_fld6, gOp_get6]
        exact attr_tail hW hk fun h => h.1 ht
      · simp (maxSteps := 2000000) only [retS, show (op.node == 1 || op.node == 2) = false by simpa using ht, vc_ret, vc_seq, vc_rg, vc_ite, thenQ_n, thenQ_r, blockQ_r, kKeep_eq, segs_nil, segs_n, ops_nil, ops_cons, vcOp, ev, look, put_mk, keep_mk, keepL, unV, Value.oneCell', cond_true, Nat.reduceEqDiff, ↓reduceIte, Bool.not_false, finW_r, resL, resOne, ↓br_tt]
        rw [checkE_node hW hk ⟨ht, hm⟩]
  · have hk1 : ¬ op.kind < 1 := by omega
    simp (maxSteps := 2000000) only [decide_eq_true hc, hk, hk1, vc_ret, vc_seq, vc_rg, vc_ite, thenQ_n, thenQ_r, kKeep_eq, segs_nil, segs_n, segs_g, ops_nil, ops_cons, qsegs_nil, qsegs_n, qsegs_g, qops_nil, qops_cons, vcqOp, vcOp, isRd, RO.isGh, skip_mk, skipL, ev, look, put_mk, keep_mk, keepL, binV, binC, unV, GV.getT, Value.oneCell', cond_true, cond_false, Nat.reduceEqDiff, ↓reduceIte, List.nil_append, Bool.true_and, Bool.not_true, Bool.not_false, decide_true, decide_false, true_and, finW_r, resL, resOne, ↓br_tt, ↓br_ff, ↓br_tf, ↓br_ft, getT_nil, fits_s, gOp_fld1, gOp_get1]
    rw [checkE_a (.inr (.inr (.inl hk)))]
end Go.Proofs.YtmjiojflncffeaaGreat.Vc

/- The code of some functions of the program, its types resolved: printed by a program of this claim. -/
set_option linter.unusedVariables false
set_option maxRecDepth 100000
namespace Go.Proofs.YtmjiojflncffeaaGreat.Vc
open Go Go.Proofs

abbrev f_oplog_order : Nat := 42
def c_oplog_order : Cd :=
 (.seq (.rg [⟨none, [(some 2, .box 97 (.t 0)), (some 3, .box 24 (.t 1)), (some 4, .mv (.c (.int .i64 0)))]⟩] [2, 3])
 (.seq (.rg [⟨none, [(some 5, .fldA (.t 2) 0 0), (some 6, .fldA (.t 5) 0 0), (some 7, .ld (.t 6) 2 true), (some 8, .ld (.t 3) 2 true), (some 9, .call 40 [(.t 7), (.t 8)]), (some 4, .mv (.t 9))]⟩] [4])
 .ret))
theorem k_oplog_order : Ok Tryz.prog 42 c_oplog_order 10 [] [.tmp 4] := Ok.mk' Tryz.func42 (by kernel_rfl) (by kernel_rfl) (by kernel_rfl)

abbrev f_slices_BinarySearchFunc : Nat := 41
def c_slices_BinarySearchFunc_L0 : Cd :=
 (.seq (.seq (.rg [⟨none, [(some 15, .mv (.t 9)), (some 16, .mv (.t 10)), (some 17, .bin .lss (.t 15) (.t 16))]⟩] [0, 2, 4, 8, 9, 10, 17])
 (.ite (.t 17)
 .skip
 (.exit 0)))
 (.block 1 (.seq (.rg [⟨none, [(some 18, .mv (.t 9)), (some 19, .mv (.t 10)), (some 20, .bin .add (.t 18) (.t 19)), (some 21, .cvI .u64 (.t 20)), (some 22, .bin .shr (.t 21) (.c (.int .u64 1))), (some 23, .cvI .i64 (.t 22)), (some 11, .mv (.t 23))]⟩] [0, 2, 4, 8, 9, 10, 11])
 (.seq (.rgq [⟨none, [(some 24, .mv (.t 2)), (some 25, .mv (.t 0)), (some 26, .mv (.t 11)), (some 27, .idxS (.t 25) (.t 26) 22), (some 28, .ld (.t 27) 22 true), (some 29, .ld (.t 4) 2 true)]⟩] [⟨none, [(some 30, .callV (.t 24) [(.t 28), (.t 29)]), (some 31, .bin .lss (.t 30) (.c (.int .i64 0)))]⟩] [0, 2, 4, 8, 9, 10, 11, 31])
 (.ite (.t 31)
 (.rg [⟨none, [(some 32, .mv (.t 11)), (some 33, .bin .add (.t 32) (.c (.int .i64 1))), (some 9, .mv (.t 33))]⟩] [0, 2, 4, 8, 9, 10])
 (.rg [⟨none, [(some 34, .mv (.t 11)), (some 10, .mv (.t 34))]⟩] [0, 2, 4, 8, 9, 10]))))))
def c_slices_BinarySearchFunc : Cd :=
 (.seq (.rg [⟨none, [(some 4, .box 24 (.t 1)), (some 6, .mv (.c (.int .i64 0))), (some 7, .mv (.c (.bool false)))]⟩] [0, 2, 4])
 (.seq (.rg [⟨none, [(some 12, .mv (.t 0)), (some 13, .len (.t 12)), (some 8, .mv (.t 13))]⟩] [0, 2, 4, 8])
 (.seq (.rg [⟨none, [(some 14, .mv (.t 8)), (some 9, .mv (.c (.int .i64 0))), (some 10, .mv (.t 14))]⟩] [0, 2, 4, 8, 9, 10])
 (.seq (.block 0 (.loop c_slices_BinarySearchFunc_L0))
 (.seq (.rgq [⟨none, [(some 35, .mv (.t 9)), (some 36, .mv (.t 9)), (some 37, .mv (.t 8)), (some 38, .bin .lss (.t 36) (.t 37)), (some 39, .mv (.t 38))]⟩, ⟨some (39, true), [(some 40, .mv (.t 2)), (some 41, .mv (.t 0)), (some 42, .mv (.t 9)), (some 43, .idxS (.t 41) (.t 42) 22), (some 44, .ld (.t 43) 22 true), (some 45, .ld (.t 4) 2 true), (some 46, .callV (.t 40) [(.t 44), (.t 45)]), (some 47, .bin .eql (.t 46) (.c (.int .i64 0)))]⟩, ⟨none, [(some 48, .pick (.t 39) (.t 47) (.c (.bool false))), (some 6, .mv (.t 35))]⟩] [⟨none, [(some 7, .mv (.t 48))]⟩] [6, 7])
 .ret)))))
theorem k_slices_BinarySearchFunc : Ok Tryz.prog 41 c_slices_BinarySearchFunc 49 [(5, 6), (8, 15)] [.tmp 6, .tmp 7] := Ok.mk' Tryz.func41 (by kernel_rfl) (by kernel_rfl) (by kernel_rfl)

abbrev f_oplog_Log_none : Nat := 35
def c_oplog_Log_none : Cd :=
 (.seq (.rg [⟨none, [(some 2, .mv (.c (.bool false)))]⟩] [0])
 (.seq (.rg [⟨none, [(some 3, .mv (.t 0)), (some 4, .eqA false 27 (.t 3) (.c (.pointer none))), (some 5, .mv (.t 4))]⟩, ⟨some (5, false), [(some 6, .mv (.t 0)), (some 7, .nilc (.t 6)), (some 8, .fldA (.t 7) 1 1), (some 9, .ld (.t 8) 1 false), (some 10, .eqA false 40 (.t 9) (.c (.pointer none)))]⟩, ⟨none, [(some 11, .pick (.t 5) (.c (.bool true)) (.t 10)), (some 2, .mv (.t 11))]⟩] [2])
 .ret))
theorem k_oplog_Log_none : Ok Tryz.prog 35 c_oplog_Log_none 12 [] [.tmp 2] := Ok.mk' Tryz.func35 (by kernel_rfl) (by kernel_rfl) (by kernel_rfl)

abbrev f_oplog_New : Nat := 12
def c_oplog_New : Cd :=
 (.seq (.rg [⟨none, [(some 0, .mv (.c (.pointer none)))]⟩] [])
 (.seq (.rg [⟨none, [(some 1, .call 34 []), (some 2, .bld (.c (.s (.pointer none)) .u) [(0, (.t 1))]), (some 3, .call 34 []), (some 4, .bld (.c (.c (.s (.pointer none)) .u) (.c (.s (.pointer none)) (.c (.s (.int .i64 0)) (.c (.s (.slice none 0 0)) (.c (.s (.int .i64 0)) .u))))) [(0, (.t 2)), (1, (.t 3))]), (some 5, .box 81 (.t 4)), (none, .gh), (some 0, .mv (.t 5))]⟩] [0])
 .ret))
theorem k_oplog_New : Ok Tryz.prog 12 c_oplog_New 6 [] [.tmp 0] := Ok.mk' Tryz.func12 (by kernel_rfl) (by kernel_rfl) (by kernel_rfl)

abbrev f_oplog_Log_look : Nat := 36
def c_oplog_Log_look_R9 : Cd :=
 (.seq (.gh (.rga (.op ⟨none, [(some 31, .mv (.t 0))]⟩ (.op ⟨none, [(some 32, .nilc (.t 31))]⟩ (.op ⟨none, [(some 33, .fldA (.t 32) 3 3)]⟩ (.op ⟨none, [(some 35, .fldA (.t 7) 0 0)]⟩ (.or (.op ⟨none, [(some 34, .ld (.t 33) 1 false)]⟩ (.op ⟨none, [(some 36, .ld (.t 35) 2 true)]⟩ (.op ⟨none, [(some 37, .call 41 [(.t 34), (.t 36), (.c (.func (.func 42) #[] #[]))])]⟩ (.op ⟨none, [(some 30, .mv (.t 37))]⟩ (.op ⟨none, [(some 38, .ext (.t 30) 0)]⟩ (.op ⟨none, [(some 39, .ext (.t 30) 1)]⟩ (.op ⟨none, [(some 9, .mv (.t 38))]⟩ (.op ⟨none, [(some 10, .mv (.t 39))]⟩ .done)))))))) (.op ⟨none, [(some 36, .ld (.t 35) 2 true)]⟩ (.op ⟨none, [(some 34, .ld (.t 33) 1 false)]⟩ (.op ⟨none, [(some 37, .call 41 [(.t 34), (.t 36), (.c (.func (.func 42) #[] #[]))])]⟩ (.op ⟨none, [(some 30, .mv (.t 37))]⟩ (.op ⟨none, [(some 38, .ext (.t 30) 0)]⟩ (.op ⟨none, [(some 39, .ext (.t 30) 1)]⟩ (.op ⟨none, [(some 9, .mv (.t 38))]⟩ (.op ⟨none, [(some 10, .mv (.t 39))]⟩ .done))))))))))))) [0, 5, 7, 10, 12, 13, 14]))
 (.block 2 (.seq (.rgq [⟨none, [(some 41, .fldA (.t 7) 0 0), (some 42, .fldA (.t 41) 0 0), (some 43, .ld (.t 42) 1 false), (some 44, .mv (.t 0)), (some 45, .nilc (.t 44)), (some 46, .fldA (.t 45) 2 2), (some 47, .ld (.t 46) 1 false)]⟩] [⟨none, [(some 48, .bin .leq (.t 43) (.t 47)), (some 40, .mv (.t 48))]⟩] [0, 5, 7, 10, 12, 13, 14, 40])
 (.ite (.t 40)
 (.seq (.rg [⟨none, [(some 4, .mv (.c (.int .i64 130)))]⟩] [4])
 .ret)
 (.seq (.rg [⟨none, [(some 50, .mv (.t 10)), (some 51, .mv (.t 50))]⟩, ⟨some (51, false), [(some 52, .mv (.t 5)), (some 53, .fldA (.t 7) 0 0), (some 54, .ld (.t 53) 2 true), (some 55, .mlk2 (.t 52) (.t 54) (.int .i64 0) false), (some 56, .bin .gtr (.t 55) (.c (.int .i64 1)))]⟩, ⟨none, [(some 57, .pick (.t 51) (.c (.bool true)) (.t 56)), (some 49, .mv (.t 57))]⟩] [0, 5, 12, 13, 14, 49])
 (.ite (.t 49)
 (.seq (.rg [⟨none, [(some 4, .mv (.c (.int .i64 5)))]⟩] [4])
 .ret)
 .skip))))))
def c_oplog_Log_look_L0 : Cd :=
 (.seq (.rg [⟨none, [(some 15, .bin .lss (.t 14) (.t 13))]⟩] [0, 5, 12, 13, 14, 15])
 (.seq (.ite (.t 15)
 .skip
 (.exit 0))
 (.seq (.block 1 (.seq (.rg [⟨none, [(some 16, .idxS (.t 12) (.t 14) 8), (some 17, .ld (.t 16) 8 true), (some 7, .new 26 (.c (.c (.s (.int .i64 0)) (.c (.s (.int .i64 0)) .u)) (.c (.s (.int .i64 0)) (.c (.s (.int .i64 0)) (.c (.s (.int .i64 0)) (.c (.s (.string ⟨#[]⟩)) (.c (.s (.string ⟨#[]⟩)) (.c (.s (.string ⟨#[]⟩)) .u)))))))), (none, .st (.t 7) (.t 17) 8)]⟩] [0, 5, 7, 12, 13, 14])
 (.seq (.seq (.rg [⟨none, [(some 18, .ld (.t 7) 8 true), (some 19, .call 52 [(.t 18)]), (some 8, .mv (.t 19))]⟩] [0, 5, 7, 8, 12, 13, 14])
 (.seq (.rg [⟨none, [(some 20, .mv (.t 8)), (some 21, .bin .neq (.t 20) (.c (.int .i64 0)))]⟩] [0, 5, 7, 8, 12, 13, 14, 21])
 (.ite (.t 21)
 (.seq (.rg [⟨none, [(some 22, .mv (.t 8)), (some 4, .mv (.t 22))]⟩] [4])
 .ret)
 .skip)))
 (.seq (.rga (.op ⟨none, [(some 23, .mv (.t 5))]⟩ (.op ⟨none, [(some 24, .fldA (.t 7) 0 0)]⟩ (.op ⟨none, [(some 25, .ld (.t 24) 2 true)]⟩ (.or (.op ⟨none, [(some 26, .mlk2 (.t 23) (.t 25) (.int .i64 0) false)]⟩ (.op ⟨none, [(some 27, .bin .add (.t 26) (.c (.int .i64 1)))]⟩ (.op ⟨none, [(some 28, .men2 (.t 23) (.t 25) (.int .i64 0))]⟩ (.op ⟨none, [(some 29, .ext (.t 28) 1)]⟩ (.op ⟨none, [(none, .mes2 (.t 23) (.t 29) (.t 27))]⟩ .done))))) (.op ⟨none, [(some 28, .men2 (.t 23) (.t 25) (.int .i64 0))]⟩ (.op ⟨none, [(some 29, .ext (.t 28) 1)]⟩ (.op ⟨none, [(some 26, .mlk2 (.t 23) (.t 25) (.int .i64 0) false)]⟩ (.op ⟨none, [(some 27, .bin .add (.t 26) (.c (.int .i64 1)))]⟩ (.op ⟨none, [(none, .mes2 (.t 23) (.t 29) (.t 27))]⟩ .done))))))))) [0, 5, 7, 12, 13, 14])
 c_oplog_Log_look_R9))))
 (.rg [⟨none, [(some 58, .bin .add (.t 14) (.c (.int .i64 1))), (some 14, .mv (.t 58))]⟩] [0, 5, 12, 13, 14]))))
def c_oplog_Log_look : Cd :=
 (.seq (.rg [⟨none, [(some 4, .mv (.c (.int .i64 0)))]⟩] [0, 1])
 (.seq (.rg [⟨none, [(some 11, .mkm), (some 5, .mv (.t 11))]⟩] [0, 1, 5])
 (.seq (.seq (.rg [⟨none, [(some 12, .mv (.t 1)), (some 13, .len (.t 12)), (some 14, .mv (.c (.int .i64 0)))]⟩] [0, 5, 12, 13, 14])
 (.block 0 (.loop c_oplog_Log_look_L0)))
 (.seq (.rg [⟨none, [(some 4, .mv (.c (.int .i64 0)))]⟩] [4])
 .ret))))
theorem k_oplog_Log_look : Ok Tryz.prog 36 c_oplog_Log_look 59 [(8, 999999), (9, 999999), (10, 7)] [.tmp 4] := Ok.mk' Tryz.func36 (by kernel_rfl) (by kernel_rfl) (by kernel_rfl)

abbrev f_oplog_Log_Len : Nat := 22
def c_oplog_Log_Len : Cd :=
 (.seq (.rg [⟨none, [(some 2, .mv (.c (.int .i64 0)))]⟩] [0])
 (.seq (.seq (.rg [⟨none, [(some 3, .mv (.t 0)), (some 4, .call 35 [(.t 3)])]⟩] [0, 4])
 (.ite (.t 4)
 (.seq (.rg [⟨none, [(some 2, .mv (.c (.int .i64 0)))]⟩] [2])
 .ret)
 .skip))
 (.seq (.rg [⟨none, [(some 5, .mv (.t 0)), (some 6, .nilc (.t 5)), (some 7, .fldA (.t 6) 3 3), (some 8, .ld (.t 7) 1 false), (some 9, .len (.t 8)), (some 2, .mv (.t 9))]⟩] [2])
 .ret)))
theorem k_oplog_Log_Len : Ok Tryz.prog 22 c_oplog_Log_Len 10 [] [.tmp 2] := Ok.mk' Tryz.func22 (by kernel_rfl) (by kernel_rfl) (by kernel_rfl)

abbrev f_oplog_Log_Base : Nat := 28
def c_oplog_Log_Base : Cd :=
 (.seq (.rg [⟨none, [(some 2, .mv (.c (.slice none 0 0)))]⟩] [0])
 (.seq (.seq (.rg [⟨none, [(some 3, .mv (.t 0)), (some 4, .call 35 [(.t 3)])]⟩] [0, 4])
 (.ite (.t 4)
 (.seq (.rg [⟨none, [(some 2, .mv (.c (.slice none 0 0)))]⟩] [2])
 .ret)
 .skip))
 (.seq (.rg [⟨none, [(some 5, .mv (.t 0)), (some 6, .nilc (.t 5)), (some 7, .fldA (.t 6) 1 1), (some 8, .ld (.t 7) 1 false), (some 9, .call 21 [(.t 8)]), (some 2, .mv (.t 9))]⟩] [2])
 .ret)))
theorem k_oplog_Log_Base : Ok Tryz.prog 28 c_oplog_Log_Base 10 [] [.tmp 2] := Ok.mk' Tryz.func28 (by kernel_rfl) (by kernel_rfl) (by kernel_rfl)

abbrev f_oplog_twin : Nat := 54
def c_oplog_twin : Cd :=
 (.seq (.rg [⟨none, [(some 2, .mv (.c (.pointer none)))]⟩] [0])
 (.seq (.rg [⟨none, [(some 6, .mv (.t 0)), (some 7, .call 21 [(.t 6)]), (some 8, .call 71 [(.t 7)]), (some 5, .mv (.t 8)), (some 9, .ext (.t 5) 0), (some 10, .ext (.t 5) 1), (some 3, .mv (.t 9)), (some 4, .mv (.t 10))]⟩] [3])
 (.seq (.rg [⟨none, [(some 11, .mv (.t 3)), (some 2, .mv (.t 11))]⟩] [2])
 .ret)))
theorem k_oplog_twin : Ok Tryz.prog 54 c_oplog_twin 12 [] [.tmp 2] := Ok.mk' Tryz.func54 (by kernel_rfl) (by kernel_rfl) (by kernel_rfl)

abbrev f_oplog_Log_Tree : Nat := 19
def c_oplog_Log_Tree : Cd :=
 (.seq (.rg [⟨none, [(some 2, .mv (.c (.pointer none)))]⟩] [0])
 (.seq (.seq (.rg [⟨none, [(some 3, .mv (.t 0)), (some 4, .call 35 [(.t 3)])]⟩] [0, 4])
 (.ite (.t 4)
 (.seq (.rg [⟨none, [(some 2, .mv (.c (.pointer none)))]⟩] [2])
 .ret)
 .skip))
 (.seq (.rg [⟨none, [(some 5, .mv (.t 0)), (some 6, .nilc (.t 5)), (some 7, .fldA (.t 6) 0 0), (some 8, .fldA (.t 7) 0 0), (some 9, .ld (.t 8) 1 false), (some 10, .call 54 [(.t 9)]), (some 2, .mv (.t 10))]⟩] [2])
 .ret)))
theorem k_oplog_Log_Tree : Ok Tryz.prog 19 c_oplog_Log_Tree 11 [] [.tmp 2] := Ok.mk' Tryz.func19 (by kernel_rfl) (by kernel_rfl) (by kernel_rfl)

def c_slices_CloneO : Cd :=
 (.seq (.rg [⟨none, [(some 2, .mv (.c (.slice none 0 0)))]⟩] [0])
 (.seq (.seq (.rg [⟨none, [(some 3, .mv (.t 0)), (some 4, .eqA false 22 (.t 3) (.c (.slice none 0 0)))]⟩] [0, 4])
 (.ite (.t 4)
 (.seq (.rg [⟨none, [(some 2, .mv (.c (.slice none 0 0)))]⟩] [2])
 .ret)
 .skip))
 (.seq (.rg [⟨none, [(some 5, .bldS 26 8 (.c (.c (.s (.int .i64 0)) (.c (.s (.int .i64 0)) .u)) (.c (.s (.int .i64 0)) (.c (.s (.int .i64 0)) (.c (.s (.int .i64 0)) (.c (.s (.string ⟨#[]⟩)) (.c (.s (.string ⟨#[]⟩)) (.c (.s (.string ⟨#[]⟩)) .u))))))) []), (some 6, .mv (.t 0)), (some 7, .app 26 8 88 (.c (.c (.s (.int .i64 0)) (.c (.s (.int .i64 0)) .u)) (.c (.s (.int .i64 0)) (.c (.s (.int .i64 0)) (.c (.s (.int .i64 0)) (.c (.s (.string ⟨#[]⟩)) (.c (.s (.string ⟨#[]⟩)) (.c (.s (.string ⟨#[]⟩)) .u))))))) (.t 5) (.t 6)), (some 2, .mv (.t 7)), (none, .gh)]⟩] [2])
 .ret)))
theorem k_slices_CloneO : Ok Tryz.prog 37 c_slices_CloneO 8 [] [.tmp 2] := Ok.mk' Tryz.func37 (by kernel_rfl) (by kernel_rfl) (by kernel_rfl)

def c_slices_CloneD : Cd :=
 (.seq (.rg [⟨none, [(some 2, .mv (.c (.slice none 0 0)))]⟩] [0])
 (.seq (.seq (.rg [⟨none, [(some 3, .mv (.t 0)), (some 4, .eqA false 79 (.t 3) (.c (.slice none 0 0)))]⟩] [0, 4])
 (.ite (.t 4)
 (.seq (.rg [⟨none, [(some 2, .mv (.c (.slice none 0 0)))]⟩] [2])
 .ret)
 .skip))
 (.seq (.rg [⟨none, [(some 5, .bldS 97 22 (.c (.c (.c (.s (.int .i64 0)) (.c (.s (.int .i64 0)) .u)) (.c (.s (.int .i64 0)) (.c (.s (.int .i64 0)) (.c (.s (.int .i64 0)) (.c (.s (.string ⟨#[]⟩)) (.c (.s (.string ⟨#[]⟩)) (.c (.s (.string ⟨#[]⟩)) .u))))))) (.c (.s (.bool false)) (.c (.c (.s (.pointer none)) (.c (.s (.int .i64 0)) (.c (.c (.c (.s (.int .i64 0)) (.c (.s (.int .i64 0)) .u)) (.c (.s (.int .i64 0)) (.c (.s (.int .i64 0)) (.c (.s (.int .i64 0)) (.c (.s (.string ⟨#[]⟩)) (.c (.s (.string ⟨#[]⟩)) (.c (.s (.string ⟨#[]⟩)) .u))))))) (.c (.c (.s (.int .i64 0)) (.c (.s (.string ⟨#[]⟩)) .u)) (.c (.s (.string ⟨#[]⟩)) .u))))) .u))) []), (some 6, .mv (.t 0)), (some 7, .app 97 22 240 (.c (.c (.c (.s (.int .i64 0)) (.c (.s (.int .i64 0)) .u)) (.c (.s (.int .i64 0)) (.c (.s (.int .i64 0)) (.c (.s (.int .i64 0)) (.c (.s (.string ⟨#[]⟩)) (.c (.s (.string ⟨#[]⟩)) (.c (.s (.string ⟨#[]⟩)) .u))))))) (.c (.s (.bool false)) (.c (.c (.s (.pointer none)) (.c (.s (.int .i64 0)) (.c (.c (.c (.s (.int .i64 0)) (.c (.s (.int .i64 0)) .u)) (.c (.s (.int .i64 0)) (.c (.s (.int .i64 0)) (.c (.s (.int .i64 0)) (.c (.s (.string ⟨#[]⟩)) (.c (.s (.string ⟨#[]⟩)) (.c (.s (.string ⟨#[]⟩)) .u))))))) (.c (.c (.s (.int .i64 0)) (.c (.s (.string ⟨#[]⟩)) .u)) (.c (.s (.string ⟨#[]⟩)) .u))))) .u))) (.t 5) (.t 6)), (some 2, .mv (.t 7)), (none, .gh)]⟩] [2])
 .ret)))
theorem k_slices_CloneD : Ok Tryz.prog 43 c_slices_CloneD 8 [] [.tmp 2] := Ok.mk' Tryz.func43 (by kernel_rfl) (by kernel_rfl) (by kernel_rfl)

abbrev f_oplog_Log_Cut : Nat := 23
def c_oplog_Log_Cut_L0 : Cd :=
 (.seq (.seq (.rg [⟨none, [(some 20, .mv (.t 5)), (some 21, .mv (.t 0)), (some 22, .nilc (.t 21)), (some 23, .fldA (.t 22) 3 3), (some 24, .ld (.t 23) 1 false), (some 25, .len (.t 24)), (some 26, .bin .lss (.t 20) (.t 25)), (some 27, .mv (.t 26))]⟩, ⟨some (27, true), [(some 28, .mv (.t 0)), (some 29, .nilc (.t 28)), (some 30, .fldA (.t 29) 3 3), (some 31, .ld (.t 30) 1 false), (some 32, .mv (.t 5)), (some 33, .idxS (.t 31) (.t 32) 22), (some 34, .fldA (.t 33) 0 0), (some 35, .fldA (.t 34) 0 0), (some 36, .fldA (.t 35) 0 0), (some 37, .ld (.t 36) 1 false), (some 38, .mv (.t 1)), (some 39, .bin .leq (.t 37) (.t 38))]⟩, ⟨none, [(some 40, .pick (.t 27) (.t 39) (.c (.bool false)))]⟩] [0, 1, 5, 40])
 (.ite (.t 40)
 .skip
 (.exit 1)))
 (.block 2 (.seq (.rgq [⟨none, [(some 41, .mv (.t 0)), (some 42, .nilc (.t 41)), (some 43, .fldA (.t 42) 1 1), (some 44, .ld (.t 43) 1 false), (some 45, .mv (.t 0)), (some 46, .nilc (.t 45)), (some 47, .fldA (.t 46) 3 3), (some 48, .ld (.t 47) 1 false), (some 49, .mv (.t 5)), (some 50, .idxS (.t 48) (.t 49) 22), (some 51, .fldA (.t 50) 0 0), (some 52, .ld (.t 51) 8 true)]⟩] [⟨none, [(some 53, .call 27 [(.t 44), (.t 52)])]⟩] [0, 1, 5])
 (.rg [⟨none, [(some 54, .mv (.t 5)), (some 55, .bin .add (.t 54) (.c (.int .i64 1))), (some 5, .mv (.t 55))]⟩] [0, 1, 5]))))
def c_oplog_Log_Cut : Cd :=
 (.seq (.rg [⟨none, [(some 4, .mv (.c (.int .i64 0)))]⟩] [0, 1])
 (.seq (.block 0 (.seq (.rg [⟨none, [(some 7, .mv (.t 0)), (some 8, .call 35 [(.t 7)]), (some 6, .mv (.t 8))]⟩] [0, 1, 6])
 (.ite (.t 6)
 (.seq (.rg [⟨none, [(some 4, .mv (.c (.int .i64 2)))]⟩] [4])
 .ret)
 (.seq (.rg [⟨none, [(some 10, .mv (.t 1)), (some 11, .mv (.t 0)), (some 12, .nilc (.t 11)), (some 13, .fldA (.t 12) 2 2), (some 14, .ld (.t 13) 1 false), (some 15, .bin .lss (.t 10) (.t 14)), (some 16, .mv (.t 15))]⟩, ⟨some (16, false), [(some 17, .mv (.t 1)), (some 18, .bin .gtr (.t 17) (.c (.int .i64 1099511627776)))]⟩, ⟨none, [(some 19, .pick (.t 16) (.c (.bool true)) (.t 18)), (some 9, .mv (.t 19))]⟩] [0, 1, 9])
 (.ite (.t 9)
 (.seq (.rg [⟨none, [(some 4, .mv (.c (.int .i64 1)))]⟩] [4])
 .ret)
 .skip)))))
 (.seq (.rg [⟨none, [(some 5, .mv (.c (.int .i64 0)))]⟩] [0, 1, 5])
 (.seq (.block 1 (.loop c_oplog_Log_Cut_L0))
 (.seq (.gh (.rg [⟨none, [(some 56, .mv (.t 0)), (some 57, .mv (.t 0)), (some 58, .mv (.t 0)), (some 59, .nilc (.t 58)), (some 60, .fldA (.t 59) 3 3), (some 61, .ld (.t 60) 1 false), (some 62, .mv (.t 5)), (none, .gh), (some 63, .sl 22 (.t 61) (some (.t 62)) none), (some 64, .call 43 [(.t 63)]), (some 65, .mv (.t 1)), (some 66, .nilc (.t 56)), (some 67, .fldA (.t 66) 3 3), (none, .st (.t 67) (.t 64) 1), (some 68, .nilc (.t 57)), (some 69, .fldA (.t 68) 2 2), (none, .st (.t 69) (.t 65) 1)]⟩] []))
 (.seq (.rg [⟨none, [(some 4, .mv (.c (.int .i64 0)))]⟩] [4])
 .ret))))))
theorem k_oplog_Log_Cut : Ok Tryz.prog 23 c_oplog_Log_Cut 70 [(7, 12)] [.tmp 4] := Ok.mk' Tryz.func23 (by kernel_rfl) (by kernel_rfl) (by kernel_rfl)

end Go.Proofs.YtmjiojflncffeaaGreat.Vc

/- The order of what a log holds; where a stamp stands in it. -/
set_option linter.unusedVariables false
set_option linter.unusedSimpArgs false
set_option maxRecDepth 100000
namespace Go.Proofs.YtmjiojflncffeaaGreat.Vc
open Go Go.Proofs Go.Sort Go.Shelf Go.Lib

theorem kept_grow (W : World) (q : Nat) (os : Array Obj) : Kept PH.no W (grow (W.drewN q) os) := by
  refine ⟨rfl, rfl, rfl, ?_, fun k hk _ => ?_⟩
  · show W.heap.size ≤ (W.heap ++ os).size
    simp
  · show (W.heap ++ os)[k]? = W.heap[k]?
    exact Array.getElem?_append_left hk
theorem scompare_fn (a b : Stamp) : FnV Tryz.prog 40 [gStamp a, gStamp b] [.s (.int .i64 (cmpSt a.k b.k))] := fun w _ =>
  (compareSt a.k b.k w).mono fun e w' ⟨he, q, os', hw⟩ => by
    subst hw
    exact ⟨_, PH.no, by rw [he]; rfl, fun r hr => by simp at hr; subst hr; rfl, rfl, fun _ _ h => (by cases h), fun _ h => absurd rfl h, kept_grow _ _ _⟩
theorem order_fn (d : Done) (s : Stamp) (hd : d.undo.of.oneCell' = true) : FnV Tryz.prog f_oplog_order [gDone d, gStamp s] [.s (.int .i64 (cmpSt d.k s.k))] := by
  refine spec_fnv k_oplog_order (by simp) (by simpa using ⟨gDone_ok d hd, gStamp_ok s⟩) fun w => ?_
  simp (maxSteps := 2000000) only [c_oplog_order, vc_seq, vc_rg, thenQ_n, kKeep_eq, segs_nil, segs_n, ops_nil, ops_cons, vcOp, ev, look, updL, put_mk, keep_mk, keepL, Value.oneCell', cond_true, Nat.reduceEqDiff, ↓reduceIte, reduceCtorEq, List.nil_append, List.cons_append, Nat.zero_add, Bool.true_and, true_and, initF, List.map_cons, List.map_nil, getT_nil, gStamp_fits, gOp_fld0, gOp_get0, gDone_fld0, gDone_get0]
  refine call_fnv (scompare_fn d.op.stamp s) rfl rfl rfl fun _ => ?_
  simp (maxSteps := 2000000) only [retS, vc_ret, thenQ_n, kKeep_eq, segs_nil, ops_nil, ops_cons, vcOp, ev, look, put_mk, keep_mk, keepL, ↓reduceIte, finW_r, resL, resOne]
  rfl
end Go.Proofs.YtmjiojflncffeaaGreat.Vc

/- Where a stamp stands in a log: slices.BinarySearchFunc, walked. -/
set_option linter.unusedVariables false
set_option linter.unusedSimpArgs false
set_option maxRecDepth 100000
namespace Go.Proofs.YtmjiojflncffeaaGreat.Vc
open Go Go.Proofs

/-- How many stand before a stamp. -/
def posA (ds : List Done) (s : Int × Int) : Nat := (ds.takeWhile fun d => decide (ltK d.k s)).length
def hasA (ds : List Done) (s : Int × Int) : Bool := decide (s ∈ ds.map Done.k)
theorem posA_le (ds : List Done) (s : Int × Int) : posA ds s ≤ ds.length := (List.takeWhile_prefix _).length_le
theorem posA_of : ∀ {ds : List Done} {s : Int × Int} {i : Nat}, i ≤ ds.length → (∀ j, j < i → ltK (ds.getD j zDone).k s) → (i < ds.length → ¬ ltK (ds.getD i zDone).k s) → posA ds s = i
  | [], s, i, h, _, _ => by simp at h; subst h; rfl
  | d :: ds, s, 0, _, _, h => by
    have : ¬ ltK d.k s := h (by simp)
    simp [posA, List.takeWhile_cons, this]
  | d :: ds, s, i + 1, h, h1, h2 => by
    have h0 : ltK d.k s := h1 0 (by omega)
    have ih := posA_of (ds := ds) (s := s) (i := i) (by simpa using h) (fun j hj => h1 (j + 1) (by omega)) (fun hi => h2 (by simpa using hi))
    simp only [posA] at ih
    simp [posA, List.takeWhile_cons, h0, ih]
theorem rising_at {ds : List Done} (h : Rising (ds.map Done.k)) {i j : Nat} (hij : i < j) (hj : j < ds.length) : ltK (ds.getD i zDone).k (ds.getD j zDone).k := by
  rw [Rising, List.pairwise_map, List.pairwise_iff_getElem] at h
  have := h i j (by omega) hj hij
  rw [List.getD_eq_getElem?_getD, List.getD_eq_getElem?_getD, List.getElem?_eq_getElem (by omega), List.getElem?_eq_getElem hj]
  exact this
theorem getD_in {α : Type} {l : List α} {i : Nat} (h : i < l.length) (z : α) : l.getD i z ∈ l := by
  rw [List.getD_eq_getElem?_getD, List.getElem?_eq_getElem h]
  exact List.getElem_mem _
theorem hasA_of {ds : List Done} {s : Int × Int} {i : Nat} (h : Rising (ds.map Done.k)) (hi : i ≤ ds.length) (h1 : ∀ j, j < i → ltK (ds.getD j zDone).k s) (h2 : i < ds.length → ¬ ltK (ds.getD i zDone).k s) : hasA ds s = true ↔ i < ds.length ∧ (ds.getD i zDone).k = s := by
  rw [hasA, decide_eq_true_eq]
  constructor
  · intro hm
    obtain ⟨d, hd, e⟩ := List.mem_map.1 hm
    obtain ⟨j, hj, rfl⟩ := List.mem_iff_getElem.1 hd
    have ej : (ds.getD j zDone).k = s := by rw [List.getD_eq_getElem?_getD, List.getElem?_eq_getElem hj]; exact e
    have hji : ¬ j < i := fun h => ltK_irrefl s (by have := h1 j h; rwa [ej] at this)
    have : j = i := by
      by_cases e : i < j
      · have h3 := rising_at h e hj
        rw [ej] at h3
        exact absurd h3 (h2 (by omega))
      · omega
    subst this
    exact ⟨hj, ej⟩
  · rintro ⟨hlt, e⟩
    exact List.mem_map.2 ⟨_, getD_in hlt zDone, e⟩
theorem wrapu {x : Int} (h1 : 0 ≤ x) (h2 : x < 18446744073709551616) : IntKind.u64.wrap x = x := by
  simp only [IntKind.wrap, IntKind.bits, IntKind.signed]
  have : (2 : Int) ^ 64 = 18446744073709551616 := by decide
  have h3 : x % 18446744073709551616 = x := Int.emod_eq_of_lt h1 h2
  simp_all
theorem half_is {i j : Nat} (h : i + j < 4611686018427387904) : IntKind.i64.wrap ((IntKind.u64.wrap (IntKind.i64.wrap ((i : Int) + j))).fdiv (2 ^ min 1 IntKind.u64.bits)) = (((i + j) / 2 : Nat) : Int) := by
  have e : min 1 IntKind.u64.bits = 1 := rfl
  rw [e, wrap64 (x := (i : Int) + j) (by omega) (by omega), wrapu (by omega) (by omega)]
  have : ((i : Int) + j).fdiv (2 ^ 1) = (((i + j) / 2 : Nat) : Int) := by
    rw [Int.fdiv_eq_ediv_of_nonneg _ (by decide)]
    omega
  rw [this, wrap64 (by omega) (by omega)]
theorem search_spec (w : World) (v : Value) (ds : List Done) (u : PH) (hu : u.le w) (hS : SlR u v 22 (ds.map gDone)) (hof : ∀ d ∈ ds, d.undo.of.oneCell' = true) (s : Stamp) (hl : ds.length ≤ 1099511627776) (hr : Rising (ds.map Done.k)) :
    Spec Tryz.prog f_slices_BinarySearchFunc [v, (gStamp s).val, .func (.func f_oplog_order) #[] #[]] PH.no w fun rs _ => rs = [.s (.int .i64 (posA ds s.k)), .s (.bool (hasA ds s.k))] := by
  refine spec_val k_slices_BinarySearchFunc (Qf := fun rs => rs = [.s (.int .i64 (posA ds s.k)), .s (.bool (hasA ds s.k))]) [.ro v 22 (gDone zDone) (ds.map gDone), .g (gStamp s), .g (.s (.func (.func f_oplog_order) #[] #[]))] (by simp) (by simpa [AV.ok, u0_no, GV.ok, Value.oneCell'] using ⟨hS.up hu.sub, gStamp_ok s⟩) ?_
  simp (maxSteps := 2000000) only [c_slices_BinarySearchFunc, vc_seq, vc_block, vc_rg, thenQ_n, kKeep_eq, segs_nil, segs_n, ops_nil, ops_cons, vcOp, ev, look, updL, put_mk, keep_mk, keepL, Value.oneCell', cond_true, Nat.reduceEqDiff, Nat.reduceAdd, ↓reduceIte, reduceCtorEq, Nat.zero_add, Bool.true_and, true_and, initF, initP, Int.reduceAdd, List.length_map]
  refine vc_loop (ι := Nat × Nat) (fun q => ⟨[(0, .row 0 0 (ds.length)), (2, .g (.s (.func (.func f_oplog_order) #[] #[]))), (4, .ref 4 []), (8, .g (.s (.int .i64 (ds.length)))), (9, .g (.s (.int .i64 (q.1)))), (10, .g (.s (.int .i64 (q.2))))], [(0, .ro 22 (gDone zDone) (ds.map gDone)), (4, .box (gStamp s))], [], PH.no⟩)
    (fun q => q.1 ≤ q.2 ∧ q.2 ≤ ds.length ∧ (∀ j, j < q.1 → ltK (ds.getD j zDone).k s.k) ∧ (q.2 < ds.length → ¬ ltK (ds.getD q.2 zDone).k s.k)) (fun q => q.2 - q.1) (0, ds.length) ⟨by simp, by simp, by simp, by simp⟩ (ge_of ?_ ?_ rfl rfl rfl) ?_
  · simp [frIn, look]
  · simp [pvIn, look]
  rintro ⟨i, j⟩ ⟨hij, hj, h1, h2⟩
  simp only at hij hj h1 h2
  generalize hQ : loopQ _ _ _ _ _ = Q
  simp (maxSteps := 2000000) only [c_slices_BinarySearchFunc_L0, vc_skip, vc_exit, vc_seq, vc_block, vc_rg, vc_rgq, vc_ite, thenQ_n, thenQ_e, kKeep_eq, segs_nil, segs_n, ops_nil, ops_cons, qsegs_nil, qsegs_n, qops_nil, qops_cons, vcqOp, vcOp, isRd, ev, look, put_mk, keep_mk, keepL, rowE, rowD, binV, binC, Value.oneCell', cond_true, Nat.reduceEqDiff, ↓reduceIte, reduceCtorEq, List.nil_append, List.append_nil, Nat.zero_add, Bool.true_and, true_and, List.map_nil, Int.reduceToNat, Int.reduceLE, decide_eq_true_eq, decide_eq_false_iff_not, br_t, getT_nil, gStamp_fits, gDone_fits, getD_gDone]
  rw [half_is (by omega)]
  simp (maxSteps := 2000000) only [Int.toNat_natCast]
  refine ⟨fun hlt => ⟨⟨by omega, by omega⟩, ⟨_, Tryz.func42, by kernel_rfl⟩, ?_⟩, fun hge => ?_⟩
  · have hm : (i + j) / 2 < ds.length := by omega
    refine call_fnv (order_fn (ds.getD ((i + j) / 2) zDone) s (hof _ (getD_in hm _))) rfl rfl rfl fun _ => ?_
    simp (maxSteps := 2000000) only [retS, cmpSt_lt, vc_rg, vc_ite, thenQ_n, blockQ_n, kKeep_eq, segs_nil, segs_n, ops_nil, ops_cons, vcOp, ev, look, put_mk, keep_mk, keepL, binV, binC, Value.oneCell', cond_true, Nat.reduceEqDiff, ↓reduceIte, reduceCtorEq, Bool.true_and, true_and, decide_eq_true_eq, decide_eq_false_iff_not, br_t]
    refine ⟨fun h3 => ?_, fun h3 => ?_⟩
    · subst hQ; simp only [loopQ_n]; refine ⟨((i + j) / 2 + 1, j), ?_, ?_, ge_of ?_ ?_ rfl rfl rfl⟩
      · refine ⟨by simp only; omega, hj, fun l hl => ?_, h2⟩
        rcases Nat.lt_succ_iff_lt_or_eq.1 hl with h4 | rfl
        · exact ltK_trans (rising_at hr h4 hm) h3
        · exact h3
      · simp only; omega
      · simp only [frIn, look, Nat.reduceEqDiff, ↓reduceIte, reduceCtorEq, Bool.and_true, Bool.true_and, true_and, and_true]
        rw [wrap_n (by omega)]
        try simp
      · simp [pvIn, look]
    · subst hQ; simp only [loopQ_n]; refine ⟨(i, (i + j) / 2), ?_, ?_, ge_of ?_ ?_ rfl rfl rfl⟩
      · exact ⟨by simp only; omega, by simp only; omega, h1, fun _ => h3⟩
      · simp only; omega
      · simp only [frIn, look, Nat.reduceEqDiff, ↓reduceIte, reduceCtorEq, Bool.and_true, and_true]
        try simp
      · simp [pvIn, look]
  · subst hQ
    obtain rfl : i = j := by omega
    have hp := posA_of hj h1 h2
    have hh := hasA_of hr hj h1 h2
    simp (maxSteps := 2000000) only [vc_ret, vc_seq, vc_rgq, thenQ_n, blockQ_e, kKeep_eq, loopQ_e, segs_nil, segs_n, ops_nil, ops_cons, qsegs_nil, qsegs_n, qsegs_g, qops_nil, qops_cons, vcqOp, vcOp, isRd, RO.isGh, skip_mk, skipL, ev, look, put_mk, keep_mk, keepL, rowE, rowD, binV, binC, Value.oneCell', cond_true, cond_false, Nat.reduceEqDiff, ↓reduceIte, reduceCtorEq, List.nil_append, List.append_nil, Nat.zero_add, Bool.true_and, Bool.not_true, true_and, List.map_nil, finW_r, resL, resOne, Int.toNat_natCast, decide_eq_true_eq, decide_eq_false_iff_not, ↓br_ft, br_t, getT_nil, gStamp_fits, gDone_fits, getD_gDone]
    refine ⟨fun hlt => ⟨⟨by omega, by omega⟩, ⟨_, Tryz.func42, by kernel_rfl⟩, ?_⟩, fun hge => ?_⟩
    · have hm : i < ds.length := by omega
      refine callq_fnv (order_fn (ds.getD i zDone) s (hof _ (getD_in hm _))) rfl rfl rfl ?_
      simp (maxSteps := 2000000) only [vc_ret, thenQ_n, kKeep_eq, segs_nil, segs_n, ops_nil, ops_cons, qsegs_nil, qsegs_n, qops_nil, qops_cons, vcqOp, vcOp, isRd, ev, look, put_mk, keep_mk, keepL, binV, binC, Value.oneCell', cond_true, Nat.reduceEqDiff, ↓reduceIte, Bool.true_and, true_and, finW_r, resL, resOne, ↓br_tt]
      rw [hp]
      have : (cmpSt (ds.getD i zDone).k s.k == 0) = hasA ds s.k := by
        rw [Bool.eq_iff_iff, hh, beq_iff_eq, cmpSt_eq]
        exact ⟨fun h => ⟨hm, h⟩, fun h => h.2⟩
      rw [this]
    · rw [hp]
      have : hasA ds s.k = false := by
        rw [Bool.eq_false_iff, Ne, hh]
        rintro ⟨h, _⟩
        omega
      rw [this]
end Go.Proofs.YtmjiojflncffeaaGreat.Vc

/- A tree's functions that only read. -/
set_option linter.unusedVariables false
set_option linter.unusedSimpArgs false
set_option maxRecDepth 100000
namespace Go.Proofs.YtmjiojflncffeaaGreat.Vc
open Go Go.Proofs

def topB (n : Int) : Bool := n == 1 || n == 2
def belowA (T : PT) : Nat → Int → Int → Bool
  | 0, _, _ => false
  | f + 1, n, a => if n = a then true else match T.get n with
    | none => false
    | some x => if topB n = true then false else belowA T f x.parent a
def PT.below (T : PT) (n a : Int) : Bool := belowA T (T.nodes.length + 1) n a
def PT.has (T : PT) (n : Int) : Bool := (T.get n).isSome
def mayA (T : PT) (op : Op) : Bool :=
  if op.kind = 1 then decide (op.node > 2) && !T.has op.node && T.has op.parent && nameB op.name
  else if op.kind = 2 then T.has op.node && !topB op.node && T.has op.parent && !T.below op.parent op.node && nameB op.name
  else if op.kind = 3 then T.has op.node && pairB op.key op.value
  else false

abbrev TM (m : PH) (L : Lay) (T : PT) : Prop := TreeM 3 m L T

section
variable {w : World} {u : PH} {L : Lay} {T : PT}
theorem kn_u {N : Nat} (hu : u.le w) {l : List PH} : KN (⟨Tryz.prog, N, w, PH.no⟩ : Ctx).u0 l u := fun b o h => .inl (by rw [u0_no]; exact hu b o h)

theorem eqTree (b : Nat) : EqG Tryz.prog 40 (.s (.pointer (some ⟨b, 0, none⟩))) (.s (.pointer none)) false := eqG_ptr Tryz.underlying40 _
theorem eqNode (b : Nat) : EqG Tryz.prog 115 (.s (.pointer (some ⟨b, 0, none⟩))) (.s (.pointer none)) false := eqG_ptr Tryz.underlying115 _
theorem eqNode0 : EqG Tryz.prog 115 (.s (.pointer none)) (.s (.pointer none)) true := eqG_nilp Tryz.underlying115
theorem eqNodes (b : Nat) : EqG Tryz.prog 114 (.s (.map (some b))) (.s (.map none)) false := eqG_map Tryz.underlying114 b

theorem none_spec (hu : u.le w) (hT : TM u L T) : Spec Tryz.prog f_tree_Tree_none [ptr (L .t)] PH.no w fun rs _ => rs = [.s (.bool false)] := by
  refine spec_val k_tree_Tree_none (Qf := fun rs => rs = [.s (.bool false)]) [.g (.s (ptr (L .t)))] (by simp) (by simp [AV.ok, GV.ok, Value.oneCell', ptr]) ?_
  have hk : ∀ {l : List PH}, KN (⟨Tryz.prog, 12, w, PH.no⟩ : Ctx).u0 l u := kn_u hu
  simp (maxSteps := 2000000) only [c_tree_Tree_none, vc_seq, vc_rg, thenQ_n, kKeep_eq, segs_nil, segs_n, ops_nil, ops_cons, vcOp, ev, look, put_mk, keep_mk, keepL, Value.oneCell', cond_true, ↓reduceIte, reduceCtorEq, initF, initP, ptr]
  refine eq_of (eqTree _) ?_
  simp (maxSteps := 2000000) only [segs_g, ops_nil, ops_cons, vcOp, ev, look, put_mk, ↓reduceIte, reduceCtorEq, Nat.add_zero, ↓br_ff, Bool.bne_false]
  refine ld_of _ (hT.s_map hk) rfl ?_
  simp (maxSteps := 2000000) only [ops_cons, vcOp, ev, look, put_mk, Value.oneCell', cond_true, ↓reduceIte]
  refine eq_of (eqNodes _) ?_
  simp (maxSteps := 2000000) only [vc_ret, thenQ_n, kKeep_eq, segs_nil, segs_n, ops_nil, ops_cons, vcOp, ev, look, put_mk, keep_mk, keepL, Value.oneCell', cond_true, Nat.reduceEqDiff, ↓reduceIte, finW_r, resL, resOne, ↓br_ft, Bool.bne_false]

theorem below_spec (hu : u.le w) (hT : TM u L T) (n a : Int) (hl : T.nodes.length < 9223372036854775800) : Spec Tryz.prog f_tree_Tree_below [ptr (L .t), .int .i64 n, .int .i64 a] PH.no w fun rs _ => rs = [.s (.bool (T.below n a))] := by
  refine spec_val k_tree_Tree_below (Qf := fun rs => rs = [.s (.bool (T.below n a))]) [.g (.s (ptr (L .t))), .g (.s (.int .i64 n)), .g (.s (.int .i64 a))] (by simp) (by simp [AV.ok, GV.ok, Value.oneCell', ptr]) ?_
  have hk : ∀ {l : List PH}, KN (⟨Tryz.prog, 37, w, PH.no⟩ : Ctx).u0 l u := kn_u hu
  simp (maxSteps := 2000000) only [c_tree_Tree_below, vc_seq, vc_rg, thenQ_n, kKeep_eq, segs_nil, segs_n, ops_nil, ops_cons, vcOp, ev, look, put_mk, keep_mk, keepL, Value.oneCell', cond_true, Nat.reduceEqDiff, Nat.reduceAdd, ↓reduceIte, reduceCtorEq, Nat.zero_add, Nat.add_zero, initF, initP, Int.reduceAdd, ptr]
  refine ld_of _ (hT.s_map hk) rfl ?_
  simp (maxSteps := 2000000) only [ops_cons, vcOp, ev, look, put_mk, ↓reduceIte]
  refine hT.len hk ?_
  simp (maxSteps := 2000000) only [vc_block, thenQ_n, kKeep_eq, segs_nil, ops_nil, ops_cons, vcOp, ev, look, put_mk, keep_mk, keepL, binV, binC, Value.oneCell', cond_true, Nat.reduceEqDiff, ↓reduceIte, reduceCtorEq, Bool.true_and, true_and]
  rw [wrap_n (by omega)]
  refine vc_loop (ι := Nat × Int) (fun q => ⟨[(0, .g (.s (ptr (L .t)))), (1, .g (.s (.int .i64 (q.2)))), (2, .g (.s (.int .i64 (a)))), (13, .g (.s (.int .i64 ((T.nodes.length + 1 : Nat))))), (14, .g (.s (.int .i64 (q.1))))], [], [], PH.no⟩) (fun q => q.1 ≤ T.nodes.length + 1 ∧ T.below n a = belowA T (T.nodes.length + 1 - q.1) q.2 a) (fun q => T.nodes.length + 1 - q.1) (0, n) ⟨by simp, rfl⟩ (ge_of ?_ ?_ rfl rfl rfl) ?_
  · simp [frIn, look, ptr]
  · simp [pvIn, look]
  rintro ⟨i, x⟩ ⟨hi, hb⟩
  simp only at hi hb
  generalize hQ : loopQ _ _ _ _ _ = Q
  simp (maxSteps := 2000000) only [c_tree_Tree_below_L0, vc_skip, vc_ret, vc_exit, vc_seq, vc_block, vc_rg, vc_ite, thenQ_n, thenQ_r, thenQ_e, blockQ_r, kKeep_eq, segs_nil, segs_n, ops_nil, ops_cons, vcOp, ev, look, put_mk, keep_mk, keepL, binV, binC, Value.oneCell', cond_true, Nat.reduceEqDiff, ↓reduceIte, reduceCtorEq, Nat.add_zero, Bool.true_and, true_and, decide_eq_true_eq, decide_eq_false_iff_not, br_t, ptr]
  refine ⟨fun hlt => ?_, fun hge => ?_⟩
  · obtain ⟨f, hf⟩ : ∃ f, T.nodes.length + 1 - i = f + 1 := ⟨T.nodes.length - i, by omega⟩
    rw [hf] at hb
    refine ⟨fun he => ?_, fun hne => ?_⟩
    · rw [beq_iff_eq] at he
      rw [belowA, if_pos he] at hb
      subst hQ
      simp (maxSteps := 2000000) only [thenQ_r, blockQ_r, loopQ_r, look, ↓reduceIte, finW_r, resL, resOne, ptr]
      rw [hb]
    · rw [beq_eq_false_iff_ne] at hne
      rw [belowA, if_neg hne] at hb
      refine ld_of _ (hT.s_map hk) rfl ?_
      simp (maxSteps := 2000000) only [ops_cons, vcOp, ev, look, put_mk, Nat.reduceEqDiff, ↓reduceIte, reduceCtorEq]
      refine hT.lk hk x ?_
      cases hg : T.get x with
      | none =>
        rw [hg] at hb
        simp (maxSteps := 2000000) only [vc_seq, vc_rg, thenQ_n, kKeep_eq, segs_nil, segs_n, ops_nil, ops_cons, vcOp, ev, look, put_mk, keep_mk, keepL, Value.oneCell', cond_true, Nat.reduceEqDiff, ↓reduceIte, reduceCtorEq, nptr_none]
        refine eq_of (eqNode0) ?_
        simp (maxSteps := 2000000) only [vc_ret, vc_seq, vc_rg, vc_ite, thenQ_n, thenQ_r, blockQ_r, kKeep_eq, segs_nil, segs_n, segs_g, ops_nil, ops_cons, vcOp, RO.isGh, skip_mk, skipL, ev, look, put_mk, keep_mk, keepL, Value.oneCell', cond_true, cond_false, Nat.reduceEqDiff, ↓reduceIte, reduceCtorEq, Bool.not_false, ↓br_tt, ↓br_tf, Bool.bne_false]
        subst hQ
        simp (maxSteps := 2000000) only [thenQ_r, blockQ_r, loopQ_r, look, ↓reduceIte, finW_r, resL, resOne, ptr]
        rw [hb]
      | some y =>
        rw [hg] at hb
        simp only at hb
        simp (maxSteps := 2000000) only [vc_seq, vc_rg, thenQ_n, kKeep_eq, segs_nil, segs_n, ops_nil, ops_cons, vcOp, ev, look, put_mk, keep_mk, keepL, Value.oneCell', cond_true, Nat.reduceEqDiff, ↓reduceIte, reduceCtorEq, nptr_some]
        refine eq_of (eqNode _) ?_
        simp (maxSteps := 2000000) only [segs_g, ops_nil, ops_cons, vcOp, ev, look, put_mk, Nat.reduceEqDiff, ↓reduceIte, reduceCtorEq, ↓br_ff, Bool.bne_false]
        refine call_fnv (top_fn x) rfl rfl rfl fun _ => ?_
        simp (maxSteps := 2000000) only [retS, vc_skip, vc_ret, vc_seq, vc_rg, vc_ite, thenQ_n, thenQ_r, blockQ_r, kKeep_eq, segs_nil, segs_n, ops_nil, ops_cons, vcOp, ev, look, put_mk, keep_mk, keepL, Value.oneCell', cond_true, Nat.reduceEqDiff, ↓reduceIte, reduceCtorEq, Nat.add_zero, ↓br_ft, br_t]
        refine ⟨fun ht => ?_, fun ht => ?_⟩
        · subst hQ
          simp (maxSteps := 2000000) only [thenQ_r, blockQ_r, loopQ_r, look, ↓reduceIte, finW_r, resL, resOne, ptr]
          rw [hb, if_pos (by simpa [topB] using ht)]
        · refine ld_of _ (hT.s_node hk hg).1 rfl ?_
          simp (maxSteps := 2000000) only [vc_rg, thenQ_n, blockQ_n, kKeep_eq, segs_nil, segs_n, ops_nil, ops_cons, vcOp, ev, look, put_mk, keep_mk, keepL, binV, binC, Value.oneCell', cond_true, Nat.reduceEqDiff, ↓reduceIte, reduceCtorEq, Bool.true_and, true_and]
          subst hQ; simp only [loopQ_n]; refine ⟨(i + 1, y.parent), ?_, ?_, ge_of ?_ ?_ rfl rfl rfl⟩
          · refine ⟨by simp only; omega, ?_⟩
            rw [hb, if_neg (by rw [topB, ht]; simp)]
            simp only
            rw [show T.nodes.length + 1 - (i + 1) = f by omega]
          · simp only; omega
          · simp only [frIn, look, Nat.reduceEqDiff, ↓reduceIte, reduceCtorEq, Bool.and_true, Bool.true_and, true_and, and_true, ptr]
            rw [wrap_n (by omega)]
            try simp
          · simp [pvIn, look]
  · subst hQ
    simp (maxSteps := 2000000) only [vc_ret, vc_seq, vc_rg, thenQ_n, blockQ_e, kKeep_eq, loopQ_e, segs_nil, segs_n, ops_nil, ops_cons, vcOp, ev, look, put_mk, keep_mk, keepL, Value.oneCell', cond_true, ↓reduceIte, finW_r, resL, resOne, ptr]
    rw [hb, show T.nodes.length + 1 - i = 0 by omega]; rfl

theorem May_spec (hu : u.le w) (hT : TM u L T) (op : Op) (hl : T.nodes.length < 9223372036854775800) (hb : op.name.size ≤ 140737488355328) : Spec Tryz.prog f_tree_Tree_May [ptr (L .t), (gOp op).val] PH.no w fun rs _ => rs = [.s (.bool (mayA T op))] := by
  refine spec_val k_tree_Tree_May (Qf := fun rs => rs = [.s (.bool (mayA T op))]) [.g (.s (ptr (L .t))), .g (gOp op)] (by simp) (by simp [AV.ok, GV.ok, Value.oneCell', ptr, gOp_ok]) ?_
  have hk : ∀ {l : List PH}, KN (⟨Tryz.prog, 80, w, PH.no⟩ : Ctx).u0 l u := kn_u hu
  have hw' : ∀ {w' : World}, (⟨Tryz.prog, 80, w, PH.no⟩ : Ctx).u0.le w' → u.le w' := fun hw b o h => hw b o (by rw [u0_no]; exact hu b o h)
  simp (maxSteps := 2000000) only [c_tree_Tree_May, vc_seq, vc_rg, thenQ_n, kKeep_eq, segs_nil, segs_n, ops_nil, ops_cons, vcOp, ev, look, updL, put_mk, keep_mk, keepL, Value.oneCell', cond_true, Nat.reduceEqDiff, ↓reduceIte, reduceCtorEq, Nat.zero_add, Bool.true_and, true_and, initF, initP, ptr]
  refine call_is _ [.s (.bool false)] rfl rfl (fun w' vs hv hw => ?_) ?_
  · obtain ⟨vs, rfl, _, hv⟩ := argsV_g hv
    obtain rfl := argsV_nil hv
    intro _
    exact none_spec (hw' hw) hT
  simp (maxSteps := 2000000) only [retS, vc_skip, vc_seq, vc_rgq, vc_ite, thenQ_n, kKeep_eq, segs_nil, ops_nil, qsegs_n, qops_cons, vcqOp, vcOp, isRd, ev, look, put_mk, keep_mk, keepL, Nat.reduceEqDiff, ↓reduceIte, reduceCtorEq, Nat.add_zero, Bool.true_and, true_and, ↓br_ft]
  refine ld_of _ (hT.s_map hk) rfl ?_
  simp (maxSteps := 2000000) only [qops_cons, vcqOp, vcOp, isRd, ev, look, put_mk, GV.getT, Nat.reduceEqDiff, ↓reduceIte, reduceCtorEq, List.nil_append, Bool.true_and, Bool.not_false, true_and, getT_nil, fits_s, gOp_fld2, gOp_get2]
  refine hT.lk hk _ ?_
  simp (maxSteps := 2000000) only [qops_cons, vcqOp, vcOp, isRd, ev, look, put_mk, Value.oneCell', cond_true, ↓reduceIte, Bool.true_and, true_and]
  refine eqN_of Tryz.underlying115 ?_
  simp (maxSteps := 2000000) only [qops_cons, vcqOp, vcOp, isRd, ev, look, put_mk, ↓reduceIte, reduceCtorEq, Nat.add_zero, Bool.true_and, true_and, Bool.bne_true]
  refine ld_of _ (hT.s_map hk) rfl ?_
  simp (maxSteps := 2000000) only [qops_cons, vcqOp, vcOp, isRd, ev, look, put_mk, GV.getT, Nat.reduceEqDiff, ↓reduceIte, reduceCtorEq, List.nil_append, Bool.true_and, Bool.not_false, true_and, getT_nil, fits_s, gOp_fld3, gOp_get3]
  refine hT.lk hk _ ?_
  simp (maxSteps := 2000000) only [qops_cons, vcqOp, vcOp, isRd, ev, look, put_mk, Value.oneCell', cond_true, ↓reduceIte, Bool.true_and, true_and]
  refine eqN_of Tryz.underlying115 ?_
  simp (maxSteps := 2000000) only [vc_skip, vc_ret, vc_seq, vc_block, vc_rg, vc_ite, thenQ_n, thenQ_r, blockQ_n, blockQ_r, kKeep_eq, segs_nil, segs_n, segs_g, ops_nil, ops_cons, qsegs_nil, qops_nil, qops_cons, vcqOp, vcOp, isRd, RO.isGh, skip_mk, skipL, ev, look, put_mk, keep_mk, keepL, binV, binC, unV, GV.getT, Value.oneCell', cond_true, cond_false, Nat.reduceEqDiff, ↓reduceIte, reduceCtorEq, List.nil_append, Bool.true_and, Bool.not_true, Bool.not_false, true_and, finW_r, resL, resOne, decide_eq_true_eq, decide_eq_false_iff_not, ↓br_tt, ↓br_ft, br_t, Bool.bne_true, getT_nil, fits_s, gOp_fld1, gOp_get1, gOp_fld2, gOp_get2, gOp_fld4, gOp_get4, gOp_fld5, gOp_get5, gOp_fld6, gOp_get6]
  have hN : ∀ {o : Option PN}, (!!o.isNone) = !o.isSome := fun {o} => by cases o <;> rfl
  have hS : ∀ {o : Option PN}, (!o.isNone) = o.isSome := fun {o} => by cases o <;> rfl
  rw [hN, hS, hS]
  change (_ → _) ∧ (_ → _)
  refine ⟨fun k1 => ?_, fun k1 => ⟨fun k2 => ?_, fun k2 => ⟨fun k3 => ?_, fun k3 => ?_⟩⟩⟩
  · rw [beq_iff_eq] at k1
    have e : mayA T op = (decide (op.node > 2) && !T.has op.node && T.has op.parent && nameB op.name) := by rw [mayA, if_pos k1]
    rw [e, PT.has, PT.has]
    refine ⟨fun a1 => ⟨fun a2 => ⟨fun a3 => ?_, fun a3 => ?_⟩, fun a2 => ?_⟩, fun a1 => ?_⟩
    · refine call_fnv (NameB_fn op.name hb) rfl rfl rfl fun _ => ?_
      simp (maxSteps := 2000000) only [retS, vc_ret, thenQ_n, thenQ_r, blockQ_r, kKeep_eq, segs_nil, segs_n, ops_nil, ops_cons, vcOp, ev, look, put_mk, keep_mk, keepL, Value.oneCell', cond_true, Nat.reduceEqDiff, ↓reduceIte, finW_r, resL, resOne, ↓br_tt]
      rw [decide_eq_true a1, a2, a3]; rfl
    · rw [a3, Bool.and_false]; rfl
    · rw [a2, Bool.and_false]; rfl
    · rw [decide_eq_false a1]; rfl
  · rw [beq_eq_false_iff_ne] at k1
    rw [beq_iff_eq] at k2
    have e : mayA T op = (T.has op.node && !topB op.node && T.has op.parent && !T.below op.parent op.node && nameB op.name) := by rw [mayA, if_neg k1, if_pos k2]
    rw [e, PT.has, PT.has]
    refine ⟨fun a1 => ?_, fun a1 => by rw [a1]; rfl⟩
    refine call_fnv (top_fn op.node) rfl rfl rfl fun _ => ?_
    simp (maxSteps := 2000000) only [retS, vc_ret, thenQ_n, thenQ_r, blockQ_r, kKeep_eq, segs_nil, segs_n, segs_g, ops_nil, ops_cons, vcOp, RO.isGh, skip_mk, skipL, ev, look, put_mk, keep_mk, keepL, unV, GV.getT, Value.oneCell', cond_true, cond_false, Nat.reduceEqDiff, ↓reduceIte, reduceCtorEq, List.nil_append, Bool.true_and, Bool.not_true, Bool.not_false, true_and, finW_r, resL, resOne, ↓br_tt, ↓br_ft, br_t, getT_nil, fits_s, gOp_fld2, gOp_get2, gOp_fld3, gOp_get3]
    rw [a1, ← topB]
    refine ⟨fun a2 => ⟨fun a3 => ?_, fun a3 => by rw [a3, Bool.and_false]; rfl⟩, fun a2 => by rw [a2]; rfl⟩
    refine call_is _ [.s (.bool (T.below op.parent op.node))] rfl rfl (fun w' vs hv hw => ?_) ?_
    · obtain ⟨vs, rfl, _, hv⟩ := argsV_g hv
      obtain ⟨vs, rfl, _, hv⟩ := argsV_g hv
      obtain ⟨vs, rfl, _, hv⟩ := argsV_g hv
      obtain rfl := argsV_nil hv
      intro _
      exact below_spec (hw' hw) hT _ _ hl
    simp (maxSteps := 2000000) only [retS, vc_ret, thenQ_n, thenQ_r, blockQ_r, kKeep_eq, segs_nil, segs_n, segs_g, ops_nil, ops_cons, vcOp, RO.isGh, skip_mk, skipL, ev, look, put_mk, keep_mk, keepL, unV, GV.getT, Value.oneCell', cond_true, cond_false, Nat.reduceEqDiff, ↓reduceIte, reduceCtorEq, List.nil_append, Bool.true_and, Bool.not_true, Bool.not_false, true_and, finW_r, resL, resOne, ↓br_tt, ↓br_ft, br_t, getT_nil, fits_s, gOp_fld4, gOp_get4]
    rw [a2, a3]
    refine ⟨fun a4 => ?_, fun a4 => by rw [a4]; rfl⟩
    refine call_fnv (NameB_fn op.name hb) rfl rfl rfl fun _ => ?_
    simp (maxSteps := 2000000) only [retS, vc_ret, thenQ_n, thenQ_r, blockQ_r, kKeep_eq, segs_nil, segs_n, ops_nil, ops_cons, vcOp, ev, look, put_mk, keep_mk, keepL, Value.oneCell', cond_true, Nat.reduceEqDiff, ↓reduceIte, Bool.and_true, Bool.true_and, true_and, and_true, finW_r, resL, resOne, ↓br_tt]
    rw [a4]; rfl
  · rw [beq_eq_false_iff_ne] at k1 k2
    rw [beq_iff_eq] at k3
    have e : mayA T op = (T.has op.node && pairB op.key op.value) := by rw [mayA, if_neg k1, if_neg k2, if_pos k3]
    rw [e, PT.has]
    refine ⟨fun a1 => ?_, fun a1 => by rw [a1]; rfl⟩
    refine call_fnv (pair_fn op.key op.value) rfl rfl rfl fun _ => ?_
    simp (maxSteps := 2000000) only [retS, vc_ret, thenQ_n, thenQ_r, blockQ_r, kKeep_eq, segs_nil, segs_n, ops_nil, ops_cons, vcOp, ev, look, put_mk, keep_mk, keepL, Value.oneCell', cond_true, Nat.reduceEqDiff, ↓reduceIte, finW_r, resL, resOne, ↓br_tt]
    rw [a1]; rfl
  · rw [beq_eq_false_iff_ne] at k1 k2 k3
    rw [mayA, if_neg k1, if_neg k2, if_neg k3]
end
end Go.Proofs.YtmjiojflncffeaaGreat.Vc

/- A tree begun; a node put to it. -/
set_option linter.unusedVariables false
set_option linter.unusedSimpArgs false
namespace Go.Proofs.YtmjiojflncffeaaGreat.Vc
open Go

/-- A node that nothing is known of. -/
structure BareM (m : PH) (b a k : Nat) : Prop where
  ba : b ≠ a
  bk : b ≠ k
  ak : a ≠ k
  node : ∃ e, m b = some (.cells #[.int .i64 0, .string ⟨#[]⟩, .map (some a), .map (some k)] e (0, 0))
  attrs : ∃ o, m a = some o ∧ MapI none o []
  kids : ∃ o, m k = some o ∧ MapI (some .i64) o []

def Lay.add (L : Lay) (n : Int) (b a k : Nat) : Lay
  | .nd j => if j = n then b else L (.nd j)
  | .ab j => if j = n then a else L (.ab j)
  | .kb j => if j = n then k else L (.kb j)
  | r => L r
def PT.add (T : PT) (n : Int) : PT := { T with nodes := T.nodes ++ [(n, PN.bare)] }
theorem PT.get_add {T : PT} {n : Int} (h : T.get n = none) (j : Int) : (T.add n).get j = if j = n then some PN.bare else T.get j := by
  unfold PT.add PT.get at *
  simp only [getA_app]
  by_cases hj : j = n
  · subst hj; rw [h]; simp [getA]
  · rw [if_neg hj]
    cases getA T.nodes j with
    | none => simp [getA, Ne.symm hj]
    | some x => rfl

theorem TreeT.add {R : Role → Prop} {m mb : PH} {L : Lay} {T : PT} {idsV : Value} {n : Int} {b a k : Nat} {o' : Obj} (h : TreeT R m L T idsV) (hR : R .nb) (hb : BareM mb b a k) (hd : dis mb m) (hn : T.get n = none)
    (ho : MapI (some .i64) o' (mput (rawN L T.nodes) (.int .i64 n) (ptr b))) : TreeT R ((uni mb m).upd (L .nb) o') (L.add n b a k) (T.add n) idsV := by
  obtain ⟨onb, hnb, _⟩ := h.has .nb hR trivial
  have hmb : ∀ {j : Nat} {o : Obj}, m j = some o → mb j = none := fun {j o} hj => by
    rcases hd j with e | e
    · exact e
    · rw [e] at hj; cases hj
  have hold : ∀ r, R r → act T r → ∃ o, m (L r) = some o := fun r h1 h2 => by
    obtain ⟨o, h3, _⟩ := h.has r h1 h2
    exact ⟨o, h3⟩
  obtain ⟨e1, q1⟩ := hb.node
  obtain ⟨oa, q2, q2'⟩ := hb.attrs
  obtain ⟨ok, q3, q3'⟩ := hb.kids
  have hne : ∀ {j : Nat} {o : Obj}, mb j = some o → ∀ r, R r → act T r → L r ≠ j := fun {j o} hj r h1 h2 e => by
    obtain ⟨o2, h3⟩ := hold r h1 h2
    rw [e] at h3
    rw [hmb h3] at hj; cases hj
  have new : ∀ {j : Nat} {o : Obj}, mb j = some o → ((uni mb m).upd (L .nb) o') j = some o := fun {j o} hj => by
    rw [upd_ne (fun e => hne hj .nb hR trivial e.symm)]
    simp [uni, hj]
  have old : ∀ r, R r → act T r → r ≠ .nb → ∀ o, m (L r) = some o → ((uni mb m).upd (L .nb) o') (L r) = some o := fun r h1 h2 h3 o hj => by
    rw [upd_ne (fun e => h3 (h.sep r .nb h1 hR h2 trivial e))]
    simp [uni, hmb hj, hj]
  have hg := PT.get_add hn
  have hkey : n ∉ T.nodes.map (·.1) := getA_none.1 hn
  refine ⟨fun r hr ha => ?_, fun r s hr hs ha hb' => ?_, ?_⟩
  · cases r with
    | t =>
      obtain ⟨o, h1, h2⟩ := h.has .t hr trivial
      exact ⟨o, old .t hr trivial (by simp) o h1, h2⟩
    | nb =>
      refine ⟨o', upd_self _ _ _, ?_⟩
      show MapI (some .i64) o' (rawN (L.add n b a k) (T.nodes ++ [(n, PN.bare)]))
      rw [mput_rawN _ _ _ _ hn] at ho
      have e : rawN (L.add n b a k) (T.nodes ++ [(n, PN.bare)]) = rawN L T.nodes ++ [(.int .i64 n, ptr b)] := by
        have e1 : rawN (L.add n b a k) T.nodes = rawN L T.nodes := rawN_lay fun j x hj => by
          have : j ≠ n := fun e => hkey (List.mem_map.2 ⟨(j, x), hj, e⟩)
          simp [Lay.add, this]
        have e2 : ∀ (l r : List (Int × PN)) (M : Lay), rawN M (l ++ r) = rawN M l ++ rawN M r := fun l r M => by simp [rawN]
        rw [e2, e1]
        simp [rawN, Lay.add]
      rw [e]; exact ho
    | mk =>
      obtain ⟨o, h1, h2⟩ := h.has .mk hr trivial
      exact ⟨o, old .mk hr trivial (by simp) o h1, trivial⟩
    | nd j =>
      by_cases hj : j = n
      · subst hj
        refine ⟨_, by show ((uni mb m).upd (L .nb) o') (if j = j then b else _) = _; rw [if_pos rfl]; exact new q1, fun x hx => ?_⟩
        rw [hg, if_pos rfl] at hx
        cases hx
        exact ⟨e1, by simp [PN.bare, Lay.add]⟩
      · have ha' : act T (.nd j) := by obtain ⟨x, hx⟩ := ha; rw [hg, if_neg hj] at hx; exact ⟨x, hx⟩
        obtain ⟨o, h1, h2⟩ := h.has _ hr ha'
        refine ⟨o, by show ((uni mb m).upd (L .nb) o') (if j = n then b else _) = _; rw [if_neg hj]; exact old _ hr ha' (by simp) o h1, fun x hx => ?_⟩
        rw [hg, if_neg hj] at hx
        obtain ⟨e', he'⟩ := h2 x hx
        exact ⟨e', by rw [he']; simp [Lay.add, hj]⟩
    | ab j =>
      by_cases hj : j = n
      · subst hj
        refine ⟨_, by show ((uni mb m).upd (L .nb) o') (if j = j then a else _) = _; rw [if_pos rfl]; exact new q2, fun x hx => ?_⟩
        rw [hg, if_pos rfl] at hx
        cases hx
        exact q2'
      · have ha' : act T (.ab j) := by obtain ⟨x, hx⟩ := ha; rw [hg, if_neg hj] at hx; exact ⟨x, hx⟩
        obtain ⟨o, h1, h2⟩ := h.has _ hr ha'
        refine ⟨o, by show ((uni mb m).upd (L .nb) o') (if j = n then a else _) = _; rw [if_neg hj]; exact old _ hr ha' (by simp) o h1, fun x hx => ?_⟩
        rw [hg, if_neg hj] at hx
        exact h2 x hx
    | kb j =>
      by_cases hj : j = n
      · subst hj
        refine ⟨_, by show ((uni mb m).upd (L .nb) o') (if j = j then k else _) = _; rw [if_pos rfl]; exact new q3, fun x hx => ?_⟩
        rw [hg, if_pos rfl] at hx
        cases hx
        exact q3'
      · have ha' : act T (.kb j) := by obtain ⟨x, hx⟩ := ha; rw [hg, if_neg hj] at hx; exact ⟨x, hx⟩
        obtain ⟨o, h1, h2⟩ := h.has _ hr ha'
        refine ⟨o, by show ((uni mb m).upd (L .nb) o') (if j = n then k else _) = _; rw [if_neg hj]; exact old _ hr ha' (by simp) o h1, fun x hx => ?_⟩
        rw [hg, if_neg hj] at hx
        exact h2 x hx
  · -- each place is one role's
    intro e
    have cls : ∀ r, R r → act (T.add n) r → (r = .nd n ∧ (L.add n b a k) r = b) ∨ (r = .ab n ∧ (L.add n b a k) r = a) ∨ (r = .kb n ∧ (L.add n b a k) r = k) ∨ (act T r ∧ (L.add n b a k) r = L r) := by
      intro r hr ha
      cases r with
      | nd j =>
        by_cases hj : j = n
        · subst hj; exact .inl ⟨rfl, by simp [Lay.add]⟩
        · obtain ⟨x, hx⟩ := ha; rw [hg, if_neg hj] at hx
          exact .inr (.inr (.inr ⟨⟨x, hx⟩, by simp [Lay.add, hj]⟩))
      | ab j =>
        by_cases hj : j = n
        · subst hj; exact .inr (.inl ⟨rfl, by simp [Lay.add]⟩)
        · obtain ⟨x, hx⟩ := ha; rw [hg, if_neg hj] at hx
          exact .inr (.inr (.inr ⟨⟨x, hx⟩, by simp [Lay.add, hj]⟩))
      | kb j =>
        by_cases hj : j = n
        · subst hj; exact .inr (.inr (.inl ⟨rfl, by simp [Lay.add]⟩))
        · obtain ⟨x, hx⟩ := ha; rw [hg, if_neg hj] at hx
          exact .inr (.inr (.inr ⟨⟨x, hx⟩, by simp [Lay.add, hj]⟩))
      | t => exact .inr (.inr (.inr ⟨trivial, rfl⟩))
      | nb => exact .inr (.inr (.inr ⟨trivial, rfl⟩))
      | mk => exact .inr (.inr (.inr ⟨trivial, rfl⟩))
    rcases cls r hr ha with ⟨h1, h2⟩ | ⟨h1, h2⟩ | ⟨h1, h2⟩ | ⟨h1, h2⟩ <;> rcases cls s hs hb' with ⟨g1, g2⟩ | ⟨g1, g2⟩ | ⟨g1, g2⟩ | ⟨g1, g2⟩ <;> rw [h2, g2] at e
    · rw [h1, g1]
    · exact absurd e hb.ba
    · exact absurd e hb.bk
    · exact absurd e.symm (hne q1 s hs g1)
    · exact absurd e.symm hb.ba
    · rw [h1, g1]
    · exact absurd e hb.ak
    · exact absurd e.symm (hne q2 s hs g1)
    · exact absurd e.symm hb.bk
    · exact absurd e.symm hb.ak
    · rw [h1, g1]
    · exact absurd e.symm (hne q3 s hs g1)
    · exact absurd e (hne q1 r hr h1)
    · exact absurd e (hne q2 r hr h1)
    · exact absurd e (hne q3 r hr h1)
    · exact h.sep r s hr hs h1 g1 e
  · show ((T.nodes ++ [(n, PN.bare)]).map (·.1)).Nodup
    rw [List.map_append, List.nodup_append]
    refine ⟨h.nod, by simp, fun x hx y hy => ?_⟩
    simp only [List.map_cons, List.map_nil, List.mem_singleton] at hy
    subst hy
    exact fun e => hkey (e ▸ hx)

theorem TreeM.add {e : TypeId} {m mb : PH} {L : Lay} {T : PT} {n : Int} {b a k : Nat} {o' : Obj} (h : TreeM e m L T) (hb : BareM mb b a k) (hd : dis mb m) (hn : T.get n = none)
    (ho : MapI (some .i64) o' (mput (rawN L T.nodes) (.int .i64 n) (ptr b))) : TreeM e ((uni mb m).upd (L .nb) o') (L.add n b a k) (T.add n) := by
  obtain ⟨mi, mt, idsV, rfl, hdi, hi, ht⟩ := h
  obtain ⟨hd1, hd2⟩ := dis_of_uni_r hd
  obtain ⟨onb, hnb, _⟩ := ht.has .nb trivial trivial
  have hn' : mi (L .nb) = none := (uni_r hdi hnb).2
  have e1 : uni mb (uni mi mt) = uni mi (uni mb mt) := by rw [← uni_assoc, uni_comm hd1, uni_assoc]
  have hdis : dis mi (uni mb mt) := dis_uni_r (dis_comm hd1) hdi
  exact ⟨mi, (uni mb mt).upd (L .nb) o', idsV, by rw [e1, uni_upd hn'], dis_upd hdis hn', hi, ht.add trivial hb hd2 hn ho⟩

/-- No nodes. -/
def PT.empty : PT := ⟨[], [], 0⟩
def part (r : Role) : Prop := r ≠ .t ∧ r ≠ .mk
theorem TreeT.none {nb : Nat} {o : Obj} (ho : MapI (some .i64) o []) : TreeT part (one nb o) (fun _ => nb) PT.empty (.slice none 0 0) := by
  refine ⟨fun r hr ha => ?_, fun r s hr hs ha hb e => ?_, by simp [PT.empty]⟩
  · cases r with
    | t => exact absurd rfl hr.1
    | mk => exact absurd rfl hr.2
    | nb => exact ⟨o, by simp [one], ho⟩
    | nd k => obtain ⟨x, hx⟩ := ha; cases hx
    | ab k => obtain ⟨x, hx⟩ := ha; cases hx
    | kb k => obtain ⟨x, hx⟩ := ha; cases hx
  · have h1 : ∀ r, part r → act PT.empty r → r = .nb := fun r hr ha => by
      cases r with
      | t => exact absurd rfl hr.1
      | mk => exact absurd rfl hr.2
      | nb => rfl
      | nd k => obtain ⟨x, hx⟩ := ha; cases hx
      | ab k => obtain ⟨x, hx⟩ := ha; cases hx
      | kb k => obtain ⟨x, hx⟩ := ha; cases hx
    rw [h1 r hr ha, h1 s hs hb]
def Lay.top (L : Lay) (t k : Nat) : Lay
  | .t => t
  | .mk => k
  | r => L r
/-- The whole of it. -/
theorem TreeM.make {ei et : TypeId} {m : PH} {L : Lay} {l : List (Int × PN)} {t k : Nat} {om : Obj} (h : TreeT part m L ⟨l, [], 0⟩ (.slice none 0 0)) (hd1 : dis (one k om) m)
    (hd2 : dis (one t (.cells #[.map (some (L .nb)), ptr k, .int .i64 0, .slice none 0 0, .int .i64 0] et (0, 0))) (uni (one k om) m)) :
    TreeM ei (uni (one t (.cells #[.map (some (L .nb)), ptr k, .int .i64 0, .slice none 0 0, .int .i64 0] et (0, 0))) (uni (one k om) m)) (L.top t k) ⟨l, [], 0⟩ := by
  refine ⟨PH.no, _, .slice none 0 0, (uni_no _).symm, dis_no _, ⟨fun x hx => by simp at hx, .inl ⟨rfl, rfl⟩⟩, ?_⟩
  generalize hot : Obj.cells #[.map (some (L .nb)), ptr k, .int .i64 0, .slice none 0 0, .int .i64 0] et (0, 0) = ot at hd2 ⊢
  have hk : ∀ {j : Nat} {o : Obj}, m j = some o → j ≠ k ∧ j ≠ t := fun {j o} hj => by
    refine ⟨fun e => ?_, fun e => ?_⟩
    · subst e; rcases hd1 j with q | q
      · simp [one] at q
      · rw [q] at hj; cases hj
    · subst e; rcases hd2 j with q | q
      · simp [one] at q
      · have : uni (one k om) m j ≠ none := by
          unfold uni
          cases one k om j with
          | none => simp [hj]
          | some x => simp
        exact absurd q this
  have htk : t ≠ k := fun e => by
    subst e; rcases hd2 t with q | q
    · simp [one] at q
    · simp [uni, one] at q
  have hin : ∀ {j : Nat} {o : Obj}, m j = some o → uni (one t ot) (uni (one k om) m) j = some o := fun {j o} hj => by
    obtain ⟨h1, h2⟩ := hk hj
    simp [uni, one, h1, h2, hj]
  have hr : ∀ l' : List (Int × PN), rawN (L.top t k) l' = rawN L l' := fun l' => rawN_lay fun _ _ _ => rfl
  have cls : ∀ r, act ⟨l, [], 0⟩ r → r = .t ∨ r = .mk ∨ (part r ∧ (L.top t k) r = L r) := fun r _ => by
    cases r with
    | t => exact .inl rfl
    | mk => exact .inr (.inl rfl)
    | nb => exact .inr (.inr ⟨⟨by simp, by simp⟩, rfl⟩)
    | nd j => exact .inr (.inr ⟨⟨by simp, by simp⟩, rfl⟩)
    | ab j => exact .inr (.inr ⟨⟨by simp, by simp⟩, rfl⟩)
    | kb j => exact .inr (.inr ⟨⟨by simp, by simp⟩, rfl⟩)
  refine ⟨fun r _ ha => ?_, fun r s _ _ ha hb e => ?_, h.nod⟩
  · rcases cls r ha with rfl | rfl | ⟨hp, e⟩
    · refine ⟨ot, by simp [Lay.top, uni, one], et, ?_⟩
      rw [← hot]; rfl
    · refine ⟨om, by simp [Lay.top, uni, one, Ne.symm htk], trivial⟩
    · obtain ⟨o, h1, h2⟩ := h.has r hp ha
      refine ⟨o, by rw [e]; exact hin h1, ?_⟩
      cases r with
      | t => exact absurd rfl hp.1
      | mk => trivial
      | nb => show MapI _ _ _; rw [hr]; exact h2
      | nd j => exact h2
      | ab j => exact h2
      | kb j => exact h2
  · rcases cls r ha with rfl | rfl | ⟨hp, e1⟩ <;> rcases cls s hb with rfl | rfl | ⟨hp2, e2⟩
    · rfl
    · exact absurd e htk
    · obtain ⟨o, h1, _⟩ := h.has s hp2 hb
      rw [e2] at e
      exact absurd e.symm (hk h1).2
    · exact absurd e.symm htk
    · rfl
    · obtain ⟨o, h1, _⟩ := h.has s hp2 hb
      rw [e2] at e
      exact absurd e.symm (hk h1).1
    · obtain ⟨o, h1, _⟩ := h.has r hp ha
      rw [e1] at e
      exact absurd e (hk h1).2
    · obtain ⟨o, h1, _⟩ := h.has r hp ha
      rw [e1] at e
      exact absurd e (hk h1).1
    · obtain ⟨o, h1, _⟩ := h.has r hp ha
      rw [e1, e2] at e
      exact h.sep r s hp hp2 ha hb e
end Go.Proofs.YtmjiojflncffeaaGreat.Vc

/- A node, a tree: made. -/
set_option linter.unusedVariables false
set_option linter.unusedSimpArgs false
set_option maxRecDepth 100000
namespace Go.Proofs.YtmjiojflncffeaaGreat.Vc
open Go Go.Proofs

theorem mup_node {R : Role → Prop} {m mb : PH} {L : Lay} {T : PT} {idsV : Value} {n : Int} {b : Nat} {d : Option Nat} {σ : SS} {K : KT} (h : TreeT R m L T idsV) (hR : R .nb) (hd : dis mb m) (hm : σ.m = uni mb m)
    (hK : ∀ o', MapI (some .i64) o' (mput (rawN L T.nodes) (.int .i64 n) (ptr b)) → K ({ σ with m := (uni mb m).upd (L .nb) o' }.put d .no)) : mupK (some .i64) (L .nb) (.int .i64 n) (.pointer (some ⟨b, 0, none⟩)) d K σ := by
  obtain ⟨o, h1, h2⟩ := h.has .nb hR trivial
  refine ⟨o, _, by rw [hm]; exact (uni_r hd h1).1, h2, rfl, fun o' ho' => ?_⟩
  have := hK o' ho'
  rwa [hm]

theorem bare_spec (w : World) : Spec Tryz.prog f_tree_bare [] PH.no w fun rs m' => ∃ b a k, rs = [.s (ptr b)] ∧ BareM m' b a k := by
  refine spec_of k_tree_bare [] (by simp) (by simp [AV.ok]) ?_
  simp (maxSteps := 2000000) only [c_tree_bare, vc_seq, vc_rg, thenQ_n, kKeep_eq, segs_nil, segs_n, ops_nil, ops_cons, vcOp, ev, put_mk, keep_mk, keepL, Value.oneCell', cond_true, initF, initP, gPlace_zero, ptr]
  intro a oa ha _
  simp (maxSteps := 2000000) only [ops_cons, vcOp, put_mk]
  intro k ok hk hdk
  simp (maxSteps := 2000000) only [ops_cons, vcOp, ev, evL, gvL, look, updL, put_mk, GV.getT, GV.same, GV.setT, Nat.reduceEqDiff, ↓reduceIte, Bool.and_true, Bool.true_and, true_and, and_true, List.map_cons, List.map_nil, Option.map_some, GV.bldT, GV.bldC]
  refine ⟨⟨rfl, rfl⟩, gh_pubBox 0 4 rfl rfl fun v u hv hp hd => ?_⟩
  obtain ⟨hok, b, e, rfl, rfl⟩ := hp
  simp (maxSteps := 2000000) only [vc_ret, thenQ_n, kKeep_eq, finQ_r, segs_nil, ops_nil, look, keep_mk, keepL, cond_true, cond_false, ↓reduceIte, BEq.rfl, kill, SV.mentions]
  refine fin_m _ rfl (fun _ _ h => h) ⟨b, a, k, rfl, ?_⟩
  rw [uni_no_r] at hdk hd ⊢
  have hak : a ≠ k := fun e => by subst e; rcases hdk a with q | q <;> simp [one] at q
  have hbk : b ≠ k := fun e => by subst e; rcases hd b with q | q <;> simp [one, uni] at q
  have hba : b ≠ a := fun e => by subst e; rcases hd b with q | q <;> simp [one, uni, hak] at q
  exact ⟨hba, hbk, hak, ⟨e, by simp [uni, one]; rfl⟩, ⟨oa, by simp [uni, one, Ne.symm hba, hak], ha _⟩, ⟨ok, by simp [uni, one, Ne.symm hbk], hk _⟩⟩

def T0 : PT := ⟨[(1, PN.bare), (2, PN.bare)], [], 0⟩
theorem New_spec (w : World) : Spec Tryz.prog f_tree_New [] PH.no w fun rs m' => ∃ L, rs = [.s (ptr (L .t))] ∧ TM m' L T0 := by
  refine spec_of k_tree_New [] (by simp) (by simp [AV.ok]) ?_
  simp (maxSteps := 2000000) only [c_tree_New, vc_seq, vc_rg, thenQ_n, kKeep_eq, segs_nil, segs_n, ops_nil, ops_cons, vcOp, ev, put_mk, keep_mk, keepL, Value.oneCell', cond_true, initF, initP, ptr]
  intro nb o0 ho0 _
  simp (maxSteps := 2000000) only [ops_cons, vcOp, put_mk]
  refine call_ownm rfl rfl (Q := fun rs m' => ∃ b a k, rs = [.s (ptr b)] ∧ BareM m' b a k) (fun w' vs hv hw _ _ => ?_) fun rs m1 _ hq hd1 => ?_
  · obtain rfl := argsV_nil hv
    exact bare_spec w'
  obtain ⟨b1, a1, k1, rfl, hb1⟩ := hq
  simp (maxSteps := 2000000) only [retS, ops_cons, vcOp, ev, look, put_mk, Value.oneCell', cond_true, Nat.reduceEqDiff, ↓reduceIte, ptr]
  have hd1' : dis m1 (one nb o0) := by have := hd1; simp only [uni_no_r] at this; exact this
  have t0 := TreeT.none (nb := nb) (ho0 (some .i64))
  refine mup_node (L := fun _ => nb) (T := PT.empty) t0 ⟨by simp, by simp⟩ hd1' (by rw [uni_no_r]) fun o1 ho1 => ?_
  have t1 := t0.add ⟨by simp, by simp⟩ hb1 hd1' rfl ho1
  generalize hM1 : (uni m1 (one nb o0)).upd nb o1 = M1 at *
  simp (maxSteps := 2000000) only [ops_cons, vcOp, put_mk0]
  refine call_ownm rfl rfl (Q := fun rs m' => ∃ b a k, rs = [.s (ptr b)] ∧ BareM m' b a k) (fun w' vs hv hw _ _ => ?_) fun rs m2 _ hq hd2 => ?_
  · obtain rfl := argsV_nil hv
    exact bare_spec w'
  obtain ⟨b2, a2, k2, rfl, hb2⟩ := hq
  simp (maxSteps := 2000000) only [retS, ops_cons, vcOp, ev, look, put_mk, Value.oneCell', cond_true, Nat.reduceEqDiff, ↓reduceIte, ptr]
  refine mup_node t1 ⟨by simp, by simp⟩ hd2 rfl fun o2 ho2 => ?_
  have t2 := t1.add ⟨by simp, by simp⟩ hb2 hd2 rfl ho2
  generalize hM2 : (uni m2 M1).upd _ o2 = M2 at *
  simp (maxSteps := 2000000) only [ops_cons, vcOp, ev, evL, gvL, look, updL, put_mk, put_mk0, Nat.reduceEqDiff, ↓reduceIte, Bool.true_and, true_and, List.map_nil, GV.bldT, GV.bldC]
  refine gh_pubBox 6 6 rfl rfl fun v u hv hp hd => ?_
  obtain ⟨hok, k, e, rfl, rfl⟩ := hp
  simp (maxSteps := 2000000) only [dropK, ops_cons, vcOp, ev, evL, gvL, look, updL, put_mk, GV.getT, GV.same, GV.setT, cond_true, cond_false, Nat.reduceEqDiff, ↓reduceIte, Bool.and_true, Bool.true_and, BEq.rfl, true_and, and_true, List.map_cons, List.map_nil, Option.map_some, kill, SV.mentions, GV.bldT, GV.bldC]
  refine ⟨⟨rfl, rfl⟩, gh_pubBox 0 8 rfl rfl fun v u hv' hp' hd' => ?_⟩
  obtain ⟨hok', t, e', rfl, rfl⟩ := hp'
  simp (maxSteps := 2000000) only [vc_ret, thenQ_n, kKeep_eq, finQ_r, segs_nil, ops_nil, look, keep_mk, keepL, cond_true, cond_false, ↓reduceIte, BEq.rfl, kill, SV.mentions]
  have hM := TreeM.make (ei := 3) (et := e') (m := M2) (L := (Lay.add (fun x => nb) 1 b1 a1 k1).add 2 b2 a2 k2) (l := T0.nodes) (t := t) (k := k) t2 hd hd'
  exact fin_m _ rfl (fun _ _ h => h) ⟨_, rfl, hM⟩
end Go.Proofs.YtmjiojflncffeaaGreat.Vc

/- A tree written to. -/
set_option linter.unusedVariables false
set_option linter.unusedSimpArgs false
namespace Go.Proofs.YtmjiojflncffeaaGreat.Vc
open Go

section
variable {e : TypeId} {m : PH} {L : Lay} {T : PT} {k : Int} {x : PN}
theorem act_mod {f : PN → PN} {s : Role} (h : act (T.mod k f) s) : act T s := by
  have key : ∀ j n, (T.mod k f).get j = some n → ∃ n', T.get j = some n' := fun j n hn => by
    rw [PT.get_mod] at hn
    split at hn
    · cases hg : T.get j with
      | none => rw [hg] at hn; cases hn
      | some y => exact ⟨y, rfl⟩
    · exact ⟨n, hn⟩
  cases s with
  | nd j => obtain ⟨n, hn⟩ := h; exact key j n hn
  | ab j => obtain ⟨n, hn⟩ := h; exact key j n hn
  | kb j => obtain ⟨n, hn⟩ := h; exact key j n hn
  | t => trivial
  | nb => trivial
  | mk => trivial
theorem get_mod_self {f : PN → PN} (hx : T.get k = some x) : (T.mod k f).get k = some (f x) := by rw [PT.get_mod, if_pos rfl, hx]; rfl
theorem get_mod_ne {f : PN → PN} {j : Int} (h : j ≠ k) : (T.mod k f).get j = T.get j := by rw [PT.get_mod, if_neg h]

theorem TreeM.modKids {f : PN → PN} (h : TreeM e m L T) (hx : T.get k = some x) (hf : ∀ y, (f y).parent = y.parent ∧ (f y).name = y.name ∧ (f y).attrs = y.attrs) {o' : Obj} (ho : MapI (some .i64) o' (rawK (f x).kids)) : TreeM e (m.upd (L (.kb k)) o') L (T.mod k f) := by
  refine h.upd (.kb k) ⟨x, hx⟩ o' rfl (fun s => act_mod) (by rw [PT.mod, keys_mod]; exact h.nod) (fun idsV o _ => fun n hn => ?_) fun s hs ha idsV o hh => ?_
  · rw [get_mod_self hx] at hn; cases hn; exact ho
  · cases s with
    | t => exact hh
    | mk => trivial
    | nb => show MapI _ _ _; rw [PT.mod, rawN_mod]; exact hh
    | nd j =>
      intro n hn
      by_cases hj : j = k
      · subst hj; rw [get_mod_self hx] at hn; cases hn
        obtain ⟨h1, h2, _⟩ := hf x
        obtain ⟨e', he'⟩ := hh x hx
        exact ⟨e', by rw [he', h1, h2]⟩
      · rw [get_mod_ne hj] at hn; exact hh n hn
    | ab j =>
      intro n hn
      by_cases hj : j = k
      · subst hj; rw [get_mod_self hx] at hn; cases hn
        rw [(hf x).2.2]; exact hh x hx
      · rw [get_mod_ne hj] at hn; exact hh n hn
    | kb j =>
      intro n hn
      by_cases hj : j = k
      · subst hj; exact absurd rfl hs
      · rw [get_mod_ne hj] at hn; exact hh n hn
theorem TreeM.modAttrs {f : PN → PN} (h : TreeM e m L T) (hx : T.get k = some x) (hf : ∀ y, (f y).parent = y.parent ∧ (f y).name = y.name ∧ (f y).kids = y.kids) {o' : Obj} (ho : MapI none o' (rawA (f x).attrs)) : TreeM e (m.upd (L (.ab k)) o') L (T.mod k f) := by
  refine h.upd (.ab k) ⟨x, hx⟩ o' rfl (fun s => act_mod) (by rw [PT.mod, keys_mod]; exact h.nod) (fun idsV o _ => fun n hn => ?_) fun s hs ha idsV o hh => ?_
  · rw [get_mod_self hx] at hn; cases hn; exact ho
  · cases s with
    | t => exact hh
    | mk => trivial
    | nb => show MapI _ _ _; rw [PT.mod, rawN_mod]; exact hh
    | nd j =>
      intro n hn
      by_cases hj : j = k
      · subst hj; rw [get_mod_self hx] at hn; cases hn
        obtain ⟨h1, h2, _⟩ := hf x
        obtain ⟨e', he'⟩ := hh x hx
        exact ⟨e', by rw [he', h1, h2]⟩
      · rw [get_mod_ne hj] at hn; exact hh n hn
    | kb j =>
      intro n hn
      by_cases hj : j = k
      · subst hj; rw [get_mod_self hx] at hn; cases hn
        rw [(hf x).2.2]; exact hh x hx
      · rw [get_mod_ne hj] at hn; exact hh n hn
    | ab j =>
      intro n hn
      by_cases hj : j = k
      · subst hj; exact absurd rfl hs
      · rw [get_mod_ne hj] at hn; exact hh n hn
theorem TreeM.modPlace {f : PN → PN} (h : TreeM e m L T) (hx : T.get k = some x) (hf : ∀ y, (f y).attrs = y.attrs ∧ (f y).kids = y.kids) {e' : TypeId} : TreeM e (m.upd (L (.nd k)) (.cells #[.int .i64 (f x).parent, .string (f x).name, .map (some (L (.ab k))), .map (some (L (.kb k)))] e' (0, 0))) L (T.mod k f) := by
  refine h.upd (.nd k) ⟨x, hx⟩ _ rfl (fun s => act_mod) (by rw [PT.mod, keys_mod]; exact h.nod) (fun idsV o _ => fun n hn => ?_) fun s hs ha idsV o hh => ?_
  · rw [get_mod_self hx] at hn; cases hn; exact ⟨e', rfl⟩
  · cases s with
    | t => exact hh
    | mk => trivial
    | nb => show MapI _ _ _; rw [PT.mod, rawN_mod]; exact hh
    | nd j =>
      intro n hn
      by_cases hj : j = k
      · subst hj; exact absurd rfl hs
      · rw [get_mod_ne hj] at hn; exact hh n hn
    | ab j =>
      intro n hn
      by_cases hj : j = k
      · subst hj; rw [get_mod_self hx] at hn; cases hn
        rw [(hf x).1]; exact hh x hx
      · rw [get_mod_ne hj] at hn; exact hh n hn
    | kb j =>
      intro n hn
      by_cases hj : j = k
      · subst hj; rw [get_mod_self hx] at hn; cases hn
        rw [(hf x).2]; exact hh x hx
      · rw [get_mod_ne hj] at hn; exact hh n hn

def PT.unkid (T : PT) (k n : Int) : PT := T.mod k fun x => { x with kids := x.kids.erase n }
def PT.kid (T : PT) (k n : Int) : PT := T.mod k fun x => { x with kids := putK x.kids n }
def PT.place (T : PT) (n parent : Int) (name : ByteArray) : PT := T.mod n fun x => { x with parent := parent, name := name }
def PT.attr (T : PT) (n : Int) (key value : ByteArray) : PT := T.mod n fun x => { x with attrs := if value = ⟨#[]⟩ then delS x.attrs key else putS x.attrs key value }
def PT.del (T : PT) (n : Int) : PT := { T with nodes := delA T.nodes n }
theorem mod_none {f : PN → PN} (h : T.get k = none) : T.mod k f = T := by
  have : ∀ l : List (Int × PN), getA l k = none → modA f l k = l := by
    intro l
    induction l with
    | nil => intro _; rfl
    | cons p l ih =>
      obtain ⟨j, y⟩ := p
      intro h
      by_cases hj : j = k
      · simp [getA, hj] at h
      · simp only [getA, hj, if_false] at h
        simp only [modA, hj, if_false, ih h]
  unfold PT.mod
  rw [this _ h]

variable {C : Ctx} {σ : SS} {d : Option Nat} {K : KT} {n : Int}
theorem TreeM.unkid (h : TreeM e σ.m L T) (hx : T.get k = some x) (hK : ∀ m', TreeM e m' L (T.unkid k n) → K ({ σ with m := m' }.put d (.tup []))) : mdlK (some .i64) (L (.kb k)) (.int .i64 n) d K σ := by
  obtain ⟨o, idsV, h1, h2⟩ := h.at (.kb k) ⟨x, hx⟩
  refine ⟨o, _, h1, h2 x hx, rfl, fun o' ho' => hK _ ?_⟩
  rw [mdel_rawK] at ho'
  exact h.modKids (f := fun x => { x with kids := x.kids.erase n }) hx (fun y => ⟨rfl, rfl, rfl⟩) ho'
theorem TreeM.kid (h : TreeM e σ.m L T) (hx : T.get k = some x) (hK : ∀ m', TreeM e m' L (T.kid k n) → K ({ σ with m := m' }.put d .no)) : mupK (some .i64) (L (.kb k)) (.int .i64 n) (.int .i64 1) d K σ := by
  obtain ⟨o, idsV, h1, h2⟩ := h.at (.kb k) ⟨x, hx⟩
  refine ⟨o, _, h1, h2 x hx, rfl, fun o' ho' => hK _ ?_⟩
  rw [mput_rawK] at ho'
  exact h.modKids (f := fun x => { x with kids := putK x.kids n }) hx (fun y => ⟨rfl, rfl, rfl⟩) ho'
theorem TreeM.place (h : TreeM e σ.m L T) (hx : T.get k = some x) {p : Place} (hK : ∀ m', TreeM e m' L (T.place k p.parent p.name) → K ({ σ with m := m' }.put d .no)) : stK σ (L (.nd k)) 0 2 (gPlace p) d K := by
  obtain ⟨o, idsV, h1, h2⟩ := h.at (.nd k) ⟨x, hx⟩
  obtain ⟨e', rfl⟩ := h2 x hx
  refine st_of (gPlace_sz p) _ e' ⟨h1, by simp⟩ ?_
  have := h.modPlace (f := fun x => { x with parent := p.parent, name := p.name }) hx (fun y => ⟨rfl, rfl⟩) (e' := e')
  exact hK _ this
theorem TreeM.attrDel {key : ByteArray} (h : TreeM e σ.m L T) (hx : T.get k = some x) (hK : ∀ m', TreeM e m' L (T.attr k key ⟨#[]⟩) → K ({ σ with m := m' }.put d (.tup []))) : mdlK none (L (.ab k)) (.string key) d K σ := by
  obtain ⟨o, idsV, h1, h2⟩ := h.at (.ab k) ⟨x, hx⟩
  refine ⟨o, _, h1, h2 x hx, trivial, fun o' ho' => hK _ ?_⟩
  rw [mdel_rawA] at ho'
  exact h.modAttrs (f := fun x => { x with attrs := if (⟨#[]⟩ : ByteArray) = ⟨#[]⟩ then delS x.attrs key else putS x.attrs key ⟨#[]⟩ }) hx (fun y => ⟨rfl, rfl, rfl⟩) (by simp only [if_true]; exact ho')
theorem TreeM.attrPut {key value : ByteArray} (hv : value ≠ ⟨#[]⟩) (h : TreeM e σ.m L T) (hx : T.get k = some x) (hK : ∀ m', TreeM e m' L (T.attr k key value) → K ({ σ with m := m' }.put d .no)) : mupK none (L (.ab k)) (.string key) (.string value) d K σ := by
  obtain ⟨o, idsV, h1, h2⟩ := h.at (.ab k) ⟨x, hx⟩
  refine ⟨o, _, h1, h2 x hx, trivial, fun o' ho' => hK _ ?_⟩
  rw [mput_rawA] at ho'
  exact h.modAttrs (f := fun x => { x with attrs := if value = ⟨#[]⟩ then delS x.attrs key else putS x.attrs key value }) hx (fun y => ⟨rfl, rfl, rfl⟩) (by simp only [if_neg hv]; exact ho')
theorem TreeM.delNode (h : TreeM e σ.m L T) (hK : ∀ m', TreeM e m' L (T.del n) → K ({ σ with m := m' }.put d (.tup []))) : mdlK (some .i64) (L .nb) (.int .i64 n) d K σ := by
  obtain ⟨o, idsV, h1, h2⟩ := h.at .nb trivial
  have hg : ∀ j y, (T.del n).get j = some y → j ≠ n ∧ T.get j = some y := fun j y hy => by
    unfold PT.get PT.del at hy
    rw [getA_del h.nod] at hy
    split at hy
    · cases hy
    · rename_i hj; exact ⟨hj, hy⟩
  have hact : ∀ s, act (T.del n) s → act T s := fun s hs => by
    cases s with
    | nd j => obtain ⟨y, hy⟩ := hs; exact ⟨y, (hg j y hy).2⟩
    | ab j => obtain ⟨y, hy⟩ := hs; exact ⟨y, (hg j y hy).2⟩
    | kb j => obtain ⟨y, hy⟩ := hs; exact ⟨y, (hg j y hy).2⟩
    | t => trivial
    | nb => trivial
    | mk => trivial
  refine ⟨o, _, h1, h2, rfl, fun o' ho' => hK _ ?_⟩
  rw [mdel_rawN] at ho'
  refine h.upd .nb trivial o' rfl hact (by rw [PT.del, keys_del]; exact h.nod.erase _) (fun idsV o _ => ho') fun s hs ha idsV o hh => ?_
  cases s with
  | t => exact hh
  | mk => trivial
  | nb => exact absurd rfl hs
  | nd j => exact fun y hy => hh y (hg j y hy).2
  | ab j => exact fun y hy => hh y (hg j y hy).2
  | kb j => exact fun y hy => hh y (hg j y hy).2
end
end Go.Proofs.YtmjiojflncffeaaGreat.Vc

/- The code of some functions of the program, its types resolved: printed by a program of this claim. -/
set_option linter.unusedVariables false
set_option maxRecDepth 100000
namespace Go.Proofs.YtmjiojflncffeaaGreat.Vc
open Go Go.Proofs

abbrev f_tree_Tree_Do : Nat := 27
def c_tree_Tree_Do_R14 : Cd :=
 (.seq (.gh (.rga (.op ⟨none, [(some 97, .mv (.t 0))]⟩ (.op ⟨none, [(some 98, .mv (.t 0))]⟩ (.op ⟨none, [(some 99, .nilc (.t 98))]⟩ (.op ⟨none, [(some 100, .fldA (.t 99) 3 3)]⟩ (.op ⟨none, [(some 102, .fldA (.t 6) 1 1)]⟩ (.or (.op ⟨none, [(some 101, .ld (.t 100) 1 false)]⟩ (.op ⟨none, [(some 103, .ld (.t 102) 1 false)]⟩ (.op ⟨none, [(some 104, .bldS 3 1 (.s (.int .i64 0)) [(.t 103)])]⟩ (.op ⟨none, [(some 105, .app 3 1 8 (.s (.int .i64 0)) (.t 101) (.t 104))]⟩ (.op ⟨none, [(some 106, .nilc (.t 97))]⟩ (.op ⟨none, [(some 107, .fldA (.t 106) 3 3)]⟩ (.op ⟨none, [(none, .st (.t 107) (.t 105) 1)]⟩ .done))))))) (.op ⟨none, [(some 103, .ld (.t 102) 1 false)]⟩ (.or (.op ⟨none, [(some 101, .ld (.t 100) 1 false)]⟩ (.op ⟨none, [(some 104, .bldS 3 1 (.s (.int .i64 0)) [(.t 103)])]⟩ (.op ⟨none, [(some 105, .app 3 1 8 (.s (.int .i64 0)) (.t 101) (.t 104))]⟩ (.op ⟨none, [(some 106, .nilc (.t 97))]⟩ (.op ⟨none, [(some 107, .fldA (.t 106) 3 3)]⟩ (.op ⟨none, [(none, .st (.t 107) (.t 105) 1)]⟩ .done)))))) (.op ⟨none, [(some 104, .bldS 3 1 (.s (.int .i64 0)) [(.t 103)])]⟩ (.op ⟨none, [(some 101, .ld (.t 100) 1 false)]⟩ (.op ⟨none, [(some 105, .app 3 1 8 (.s (.int .i64 0)) (.t 101) (.t 104))]⟩ (.op ⟨none, [(some 106, .nilc (.t 97))]⟩ (.op ⟨none, [(some 107, .fldA (.t 106) 3 3)]⟩ (.op ⟨none, [(none, .st (.t 107) (.t 105) 1)]⟩ .done)))))))))))))) [4, 6]))
 (.seq (.rg [⟨none, [(some 108, .ld (.t 6) 13 true), (none, .st (.t 4) (.t 108) 13), (some 5, .mv (.c (.bool true)))]⟩] [4, 5])
 .ret))
def c_tree_Tree_Do : Cd :=
 (.seq (.rg [⟨none, [(some 3, .box 26 (.t 1)), (some 4, .new 71 (.c (.s (.pointer none)) (.c (.s (.int .i64 0)) (.c (.c (.c (.s (.int .i64 0)) (.c (.s (.int .i64 0)) .u)) (.c (.s (.int .i64 0)) (.c (.s (.int .i64 0)) (.c (.s (.int .i64 0)) (.c (.s (.string ⟨#[]⟩)) (.c (.s (.string ⟨#[]⟩)) (.c (.s (.string ⟨#[]⟩)) .u))))))) (.c (.c (.s (.int .i64 0)) (.c (.s (.string ⟨#[]⟩)) .u)) (.c (.s (.string ⟨#[]⟩)) .u)))))), (some 5, .mv (.c (.bool false)))]⟩] [0, 3, 4])
 (.seq (.seq (.rg [⟨none, [(some 7, .mv (.t 0)), (some 8, .ld (.t 3) 8 true), (some 9, .call 53 [(.t 7), (.t 8)]), (some 10, .un .not (.t 9))]⟩] [0, 3, 4, 10])
 (.ite (.t 10)
 (.seq (.rg [⟨none, [(some 11, .bld (.c (.s (.pointer none)) (.c (.s (.int .i64 0)) (.c (.c (.c (.s (.int .i64 0)) (.c (.s (.int .i64 0)) .u)) (.c (.s (.int .i64 0)) (.c (.s (.int .i64 0)) (.c (.s (.int .i64 0)) (.c (.s (.string ⟨#[]⟩)) (.c (.s (.string ⟨#[]⟩)) (.c (.s (.string ⟨#[]⟩)) .u))))))) (.c (.c (.s (.int .i64 0)) (.c (.s (.string ⟨#[]⟩)) .u)) (.c (.s (.string ⟨#[]⟩)) .u))))) []), (none, .st (.t 4) (.t 11) 13), (some 5, .mv (.c (.bool false)))]⟩] [4, 5])
 .ret)
 .skip))
 (.seq (.rg [⟨none, [(some 12, .mv (.t 0)), (some 13, .nilc (.t 12)), (some 14, .fldA (.t 13) 4 4), (some 15, .ld (.t 14) 1 false), (some 16, .bin .add (.t 15) (.c (.int .i64 1))), (some 17, .nilc (.t 12)), (some 18, .fldA (.t 17) 4 4), (none, .st (.t 18) (.t 16) 1)]⟩] [0, 3, 4])
 (.seq (.rga (.held [0, 3] (.op ⟨none, [(some 19, .mv (.t 0))]⟩ (.op ⟨none, [(some 20, .nilc (.t 19))]⟩ (.op ⟨none, [(some 21, .fldA (.t 20) 1 1)]⟩ (.op ⟨none, [(some 23, .mv (.t 0))]⟩ (.op ⟨none, [(some 24, .nilc (.t 23))]⟩ (.op ⟨none, [(some 25, .fldA (.t 24) 4 4)]⟩ (.first ⟨none, [(some 22, .ld (.t 21) 1 false)]⟩ (.first ⟨none, [(some 26, .ld (.t 25) 1 false)]⟩ (.first ⟨none, [(some 27, .ld (.t 3) 8 true)]⟩ (.op ⟨none, [(some 28, .bld (.c (.s (.pointer none)) (.c (.s (.int .i64 0)) (.c (.c (.c (.s (.int .i64 0)) (.c (.s (.int .i64 0)) .u)) (.c (.s (.int .i64 0)) (.c (.s (.int .i64 0)) (.c (.s (.int .i64 0)) (.c (.s (.string ⟨#[]⟩)) (.c (.s (.string ⟨#[]⟩)) (.c (.s (.string ⟨#[]⟩)) .u))))))) (.c (.c (.s (.int .i64 0)) (.c (.s (.string ⟨#[]⟩)) .u)) (.c (.s (.string ⟨#[]⟩)) .u))))) [(0, (.t 22)), (1, (.t 26)), (2, (.t 27))])]⟩ (.op ⟨none, [(some 6, .new 71 (.c (.s (.pointer none)) (.c (.s (.int .i64 0)) (.c (.c (.c (.s (.int .i64 0)) (.c (.s (.int .i64 0)) .u)) (.c (.s (.int .i64 0)) (.c (.s (.int .i64 0)) (.c (.s (.int .i64 0)) (.c (.s (.string ⟨#[]⟩)) (.c (.s (.string ⟨#[]⟩)) (.c (.s (.string ⟨#[]⟩)) .u))))))) (.c (.c (.s (.int .i64 0)) (.c (.s (.string ⟨#[]⟩)) .u)) (.c (.s (.string ⟨#[]⟩)) .u))))))]⟩ (.op ⟨none, [(none, .st (.t 6) (.t 28) 13)]⟩ .done))))))))))))) [0, 3, 4, 6])
 (.seq (.seq (.rg [⟨none, [(some 29, .fldA (.t 3) 1 2), (some 30, .ld (.t 29) 1 false)]⟩] [0, 3, 4, 6, 30])
 (.block 0 (.seq (.rg [⟨none, [(some 58, .bin .eql (.t 30) (.c (.int .i64 1))), (some 57, .mv (.t 58))]⟩] [0, 3, 4, 6, 30, 57])
 (.ite (.t 57)
 (.seq (.rga (.op ⟨none, [(some 59, .mv (.t 0))]⟩ (.op ⟨none, [(some 60, .nilc (.t 59))]⟩ (.op ⟨none, [(some 61, .fldA (.t 60) 0 0)]⟩ (.op ⟨none, [(some 63, .fldA (.t 3) 2 3)]⟩ (.or (.op ⟨none, [(some 62, .ld (.t 61) 1 false)]⟩ (.or (.op ⟨none, [(some 64, .ld (.t 63) 1 false)]⟩ (.op ⟨none, [(some 65, .call 66 [])]⟩ (.op ⟨none, [(none, .mup (some .i64) (.t 62) (.t 64) (.t 65))]⟩ .done))) (.op ⟨none, [(some 65, .call 66 [])]⟩ (.op ⟨none, [(some 64, .ld (.t 63) 1 false)]⟩ (.op ⟨none, [(none, .mup (some .i64) (.t 62) (.t 64) (.t 65))]⟩ .done))))) (.or (.op ⟨none, [(some 64, .ld (.t 63) 1 false)]⟩ (.or (.op ⟨none, [(some 62, .ld (.t 61) 1 false)]⟩ (.op ⟨none, [(some 65, .call 66 [])]⟩ (.op ⟨none, [(none, .mup (some .i64) (.t 62) (.t 64) (.t 65))]⟩ .done))) (.op ⟨none, [(some 65, .call 66 [])]⟩ (.op ⟨none, [(some 62, .ld (.t 61) 1 false)]⟩ (.op ⟨none, [(none, .mup (some .i64) (.t 62) (.t 64) (.t 65))]⟩ .done))))) (.op ⟨none, [(some 65, .call 66 [])]⟩ (.or (.op ⟨none, [(some 62, .ld (.t 61) 1 false)]⟩ (.op ⟨none, [(some 64, .ld (.t 63) 1 false)]⟩ (.op ⟨none, [(none, .mup (some .i64) (.t 62) (.t 64) (.t 65))]⟩ .done))) (.op ⟨none, [(some 64, .ld (.t 63) 1 false)]⟩ (.op ⟨none, [(some 62, .ld (.t 61) 1 false)]⟩ (.op ⟨none, [(none, .mup (some .i64) (.t 62) (.t 64) (.t 65))]⟩ .done))))))))))) [0, 3, 4, 6])
 (.rg [⟨none, [(some 66, .mv (.t 0)), (some 67, .fldA (.t 3) 2 3), (some 68, .ld (.t 67) 1 false), (some 69, .fldA (.t 3) 3 4), (some 70, .ld (.t 69) 1 false), (some 71, .fldA (.t 3) 4 5), (some 72, .ld (.t 71) 1 false), (some 73, .bld (.c (.s (.int .i64 0)) (.c (.s (.string ⟨#[]⟩)) .u)) [(0, (.t 70)), (1, (.t 72))]), (some 74, .call 67 [(.t 66), (.t 68), (.t 73)])]⟩] [0, 4, 6]))
 (.seq (.rg [⟨none, [(some 76, .bin .eql (.t 30) (.c (.int .i64 2))), (some 75, .mv (.t 76))]⟩] [0, 3, 4, 6, 75])
 (.ite (.t 75)
 (.seq (.rgq [⟨none, [(some 77, .mv (.t 0)), (some 78, .nilc (.t 77)), (some 79, .fldA (.t 78) 0 0), (some 80, .ld (.t 79) 1 false), (some 81, .fldA (.t 3) 2 3), (some 82, .ld (.t 81) 1 false)]⟩] [⟨none, [(some 83, .mlk (some .i64) (.t 80) (.t 82) (.pointer none) false), (some 84, .nilc (.t 83)), (some 85, .fldA (.t 84) 0 0), (some 86, .ld (.t 85) 2 true), (some 87, .fldA (.t 6) 3 10), (none, .st (.t 87) (.t 86) 2)]⟩] [0, 3, 4, 6])
 (.rg [⟨none, [(some 88, .mv (.t 0)), (some 89, .fldA (.t 3) 2 3), (some 90, .ld (.t 89) 1 false), (some 91, .fldA (.t 3) 3 4), (some 92, .ld (.t 91) 1 false), (some 93, .fldA (.t 3) 4 5), (some 94, .ld (.t 93) 1 false), (some 95, .bld (.c (.s (.int .i64 0)) (.c (.s (.string ⟨#[]⟩)) .u)) [(0, (.t 92)), (1, (.t 94))]), (some 96, .call 67 [(.t 88), (.t 90), (.t 95)])]⟩] [0, 4, 6]))
 (.seq (.rgq [⟨none, [(some 31, .mv (.t 0)), (some 32, .nilc (.t 31)), (some 33, .fldA (.t 32) 0 0), (some 34, .ld (.t 33) 1 false), (some 35, .fldA (.t 3) 2 3), (some 36, .ld (.t 35) 1 false), (some 37, .mlk (some .i64) (.t 34) (.t 36) (.pointer none) false), (some 38, .nilc (.t 37)), (some 39, .fldA (.t 38) 1 2), (some 40, .ld (.t 39) 1 false), (some 41, .fldA (.t 3) 5 6), (some 42, .ld (.t 41) 1 false)]⟩] [⟨none, [(some 43, .mlk none (.t 40) (.t 42) (.string ⟨#[]⟩) false), (some 44, .fldA (.t 6) 4 12), (none, .st (.t 44) (.t 43) 1)]⟩] [0, 3, 4, 6])
 (.rgq [⟨none, [(some 45, .mv (.t 0)), (some 46, .nilc (.t 45)), (some 47, .fldA (.t 46) 0 0), (some 48, .ld (.t 47) 1 false), (some 49, .fldA (.t 3) 2 3), (some 50, .ld (.t 49) 1 false), (some 51, .mlk (some .i64) (.t 48) (.t 50) (.pointer none) false), (some 52, .fldA (.t 3) 5 6), (some 53, .ld (.t 52) 1 false), (some 54, .fldA (.t 3) 6 7), (some 55, .ld (.t 54) 1 false)]⟩] [⟨none, [(some 56, .call 68 [(.t 51), (.t 53), (.t 55)])]⟩] [0, 4, 6]))))))))
 c_tree_Tree_Do_R14)))))
theorem k_tree_Tree_Do : Ok Tryz.prog 27 c_tree_Tree_Do 109 [(4, 999998), (9, 999999), (12, 6), (6, 12), (7, 11), (14, 999999)] [.cell 4 13 true, .tmp 5] := Ok.mk' Tryz.func27 (by kernel_rfl) (by kernel_rfl) (by kernel_rfl)

abbrev f_tree_node_attr : Nat := 68
def c_tree_node_attr : Cd :=
 (.seq (.rg [⟨none, [(some 6, .mv (.t 2)), (some 7, .bin .eql (.t 6) (.c (.string ⟨#[]⟩)))]⟩] [0, 1, 2, 7])
 (.ite (.t 7)
 (.rg [⟨none, [(some 8, .mv (.t 0)), (some 9, .nilc (.t 8)), (some 10, .fldA (.t 9) 1 2), (some 11, .ld (.t 10) 1 false), (some 12, .mv (.t 1)), (none, .mdl none (.t 11) (.t 12))]⟩] [])
 (.rg [⟨none, [(some 13, .mv (.t 0)), (some 14, .nilc (.t 13)), (some 15, .fldA (.t 14) 1 2), (some 16, .ld (.t 15) 1 false), (some 17, .mv (.t 1)), (some 18, .mv (.t 2)), (none, .mup none (.t 16) (.t 17) (.t 18))]⟩] [])))
theorem k_tree_node_attr : Ok Tryz.prog 68 c_tree_node_attr 19 [] [] := Ok.mk' Tryz.func68 (by kernel_rfl) (by kernel_rfl) (by kernel_rfl)

abbrev f_tree_Tree_Back : Nat := 44
def c_tree_Tree_Back : Cd :=
 (.seq (.rg [⟨none, [(some 3, .box 71 (.t 1)), (some 4, .mv (.c (.int .i64 0)))]⟩] [0, 3])
 (.seq (.seq (.rg [⟨none, [(some 6, .mv (.t 0)), (some 7, .call 56 [(.t 6)])]⟩] [0, 3, 7])
 (.ite (.t 7)
 (.seq (.rg [⟨none, [(some 4, .mv (.c (.int .i64 2)))]⟩] [4])
 .ret)
 .skip))
 (.seq (.seq (.rg [⟨none, [(some 8, .ld (.t 3) 13 true), (some 9, .bld (.c (.s (.pointer none)) (.c (.s (.int .i64 0)) (.c (.c (.c (.s (.int .i64 0)) (.c (.s (.int .i64 0)) .u)) (.c (.s (.int .i64 0)) (.c (.s (.int .i64 0)) (.c (.s (.int .i64 0)) (.c (.s (.string ⟨#[]⟩)) (.c (.s (.string ⟨#[]⟩)) (.c (.s (.string ⟨#[]⟩)) .u))))))) (.c (.c (.s (.int .i64 0)) (.c (.s (.string ⟨#[]⟩)) .u)) (.c (.s (.string ⟨#[]⟩)) .u))))) []), (some 10, .eqA false 71 (.t 8) (.t 9))]⟩] [0, 3, 10])
 (.ite (.t 10)
 (.seq (.rg [⟨none, [(some 4, .mv (.c (.int .i64 0)))]⟩] [4])
 .ret)
 .skip))
 (.seq (.rg [⟨none, [(some 11, .mv (.t 0)), (some 12, .nilc (.t 11)), (some 13, .fldA (.t 12) 3 3), (some 14, .ld (.t 13) 1 false), (some 15, .len (.t 14)), (some 16, .bin .sub (.t 15) (.c (.int .i64 1))), (some 5, .mv (.t 16))]⟩] [0, 3, 5])
 (.seq (.seq (.rgq [⟨none, [(some 17, .fldA (.t 3) 0 0), (some 18, .ld (.t 17) 1 false), (some 19, .mv (.t 0)), (some 20, .nilc (.t 19)), (some 21, .fldA (.t 20) 1 1), (some 22, .ld (.t 21) 1 false), (some 23, .eqA true 67 (.t 18) (.t 22)), (some 24, .mv (.t 23))]⟩, ⟨some (24, false), [(some 25, .mv (.t 5)), (some 26, .bin .lss (.t 25) (.c (.int .i64 0)))]⟩, ⟨none, [(some 27, .pick (.t 24) (.c (.bool true)) (.t 26)), (some 28, .mv (.t 27))]⟩, ⟨some (28, false), [(some 29, .mv (.t 0)), (some 30, .nilc (.t 29)), (some 31, .fldA (.t 30) 3 3), (some 32, .ld (.t 31) 1 false), (some 33, .mv (.t 5)), (some 34, .idxS (.t 32) (.t 33) 1), (some 35, .ld (.t 34) 1 false), (some 36, .fldA (.t 3) 1 1), (some 37, .ld (.t 36) 1 false)]⟩] [⟨some (28, false), [(some 38, .bin .neq (.t 35) (.t 37))]⟩, ⟨none, [(some 39, .pick (.t 28) (.c (.bool true)) (.t 38))]⟩] [0, 3, 5, 39])
 (.ite (.t 39)
 (.seq (.rg [⟨none, [(some 4, .mv (.c (.int .i64 120)))]⟩] [4])
 .ret)
 .skip))
 (.seq (.rg [⟨none, [(some 40, .mv (.t 0)), (some 41, .mv (.t 0)), (some 42, .nilc (.t 41)), (some 43, .fldA (.t 42) 3 3), (some 44, .ld (.t 43) 1 false), (some 45, .mv (.t 5)), (some 46, .sl 1 (.t 44) none (some (.t 45))), (some 47, .nilc (.t 40)), (some 48, .fldA (.t 47) 3 3), (none, .st (.t 48) (.t 46) 1)]⟩] [0, 3])
 (.seq (.seq (.rg [⟨none, [(some 49, .fldA (.t 3) 2 2), (some 50, .fldA (.t 49) 1 2), (some 51, .ld (.t 50) 1 false)]⟩] [0, 3, 51])
 (.block 0 (.seq (.rg [⟨none, [(some 67, .bin .eql (.t 51) (.c (.int .i64 1))), (some 66, .mv (.t 67))]⟩] [0, 3, 51, 66])
 (.ite (.t 66)
 (.seq (.rgq [⟨none, [(some 68, .mv (.t 0)), (some 69, .nilc (.t 68)), (some 70, .fldA (.t 69) 0 0), (some 71, .ld (.t 70) 1 false), (some 72, .fldA (.t 3) 2 2), (some 73, .fldA (.t 72) 3 4), (some 74, .ld (.t 73) 1 false), (some 75, .mlk (some .i64) (.t 71) (.t 74) (.pointer none) false), (some 76, .nilc (.t 75)), (some 77, .fldA (.t 76) 2 3), (some 78, .ld (.t 77) 1 false), (some 79, .fldA (.t 3) 2 2), (some 80, .fldA (.t 79) 2 3), (some 81, .ld (.t 80) 1 false)]⟩] [⟨none, [(none, .mdl (some .i64) (.t 78) (.t 81))]⟩] [0, 3])
 (.rgq [⟨none, [(some 82, .mv (.t 0)), (some 83, .nilc (.t 82)), (some 84, .fldA (.t 83) 0 0), (some 85, .ld (.t 84) 1 false), (some 86, .fldA (.t 3) 2 2), (some 87, .fldA (.t 86) 2 3), (some 88, .ld (.t 87) 1 false)]⟩] [⟨none, [(none, .mdl (some .i64) (.t 85) (.t 88))]⟩] []))
 (.seq (.rg [⟨none, [(some 90, .bin .eql (.t 51) (.c (.int .i64 2))), (some 89, .mv (.t 90))]⟩] [0, 3, 89])
 (.ite (.t 89)
 (.rg [⟨none, [(some 91, .mv (.t 0)), (some 92, .fldA (.t 3) 2 2), (some 93, .fldA (.t 92) 2 3), (some 94, .ld (.t 93) 1 false), (some 95, .fldA (.t 3) 3 10), (some 96, .ld (.t 95) 2 true), (some 97, .call 67 [(.t 91), (.t 94), (.t 96)])]⟩] [])
 (.rgq [⟨none, [(some 52, .mv (.t 0)), (some 53, .nilc (.t 52)), (some 54, .fldA (.t 53) 0 0), (some 55, .ld (.t 54) 1 false), (some 56, .fldA (.t 3) 2 2), (some 57, .fldA (.t 56) 2 3), (some 58, .ld (.t 57) 1 false), (some 59, .mlk (some .i64) (.t 55) (.t 58) (.pointer none) false), (some 60, .fldA (.t 3) 2 2), (some 61, .fldA (.t 60) 5 6), (some 62, .ld (.t 61) 1 false), (some 63, .fldA (.t 3) 4 12), (some 64, .ld (.t 63) 1 false)]⟩] [⟨none, [(some 65, .call 68 [(.t 59), (.t 62), (.t 64)])]⟩] [])))))))
 (.seq (.rg [⟨none, [(some 4, .mv (.c (.int .i64 0)))]⟩] [4])
 .ret))))))))
theorem k_tree_Tree_Back : Ok Tryz.prog 44 c_tree_Tree_Back 98 [(6, 21), (12, 14), (13, 7), (10, 13)] [.tmp 4] := Ok.mk' Tryz.func44 (by kernel_rfl) (by kernel_rfl) (by kernel_rfl)

end Go.Proofs.YtmjiojflncffeaaGreat.Vc

/- A tree's functions that write. -/
set_option linter.unusedVariables false
set_option linter.unusedSimpArgs false
set_option maxRecDepth 100000
namespace Go.Proofs.YtmjiojflncffeaaGreat.Vc
open Go Go.Proofs

def PT.put (T : PT) (n : Int) (p : Place) : PT := match T.get n with
  | .none => T
  | some x => ((T.unkid x.parent n).place n p.parent p.name).kid p.parent n

theorem vc_gh_of_ge {C : Ctx} {a : Cd} {Q : QT} {σ τ : SS} (h : Ge σ τ) (hv : vc C a Q τ) : vc C (.gh a) Q σ := fun act w hR => ⟨τ, h.rel hR, hv⟩
theorem get_unkid {T : PT} {k n j : Int} : (T.unkid k n).get j = if j = k then (T.get j).map (fun x => { x with kids := x.kids.erase n }) else T.get j := PT.get_mod _ _ _ _
theorem get_place {T : PT} {n j q : Int} {nm : ByteArray} : (T.place n q nm).get j = if j = n then (T.get j).map (fun x => { x with parent := q, name := nm }) else T.get j := PT.get_mod _ _ _ _
theorem get_kid {T : PT} {k n j : Int} : (T.kid k n).get j = if j = k then (T.get j).map (fun x => { x with kids := putK x.kids n }) else T.get j := PT.get_mod _ _ _ _
theorem kn_m {C : Ctx} {ph : List PH} {m : PH} : KN C.u0 (m :: ph) m := KN.mem (by simp)

theorem put_spec (w : World) (m : PH) (L : Lay) (T : PT) (n : Int) (p : Place) (x : PN) (hx : T.get n = some x) (hT : TM m L T) :
    Spec Tryz.prog f_tree_Tree_put [ptr (L .t), .int .i64 n, (gPlace p).val] m w fun rs m' => rs = [] ∧ TM m' L (T.put n p) := by
  refine spec_of k_tree_Tree_put [.g (.s (ptr (L .t))), .g (.s (.int .i64 n)), .g (gPlace p)] (by simp) (by simp [AV.ok, GV.ok, Value.oneCell', ptr, gPlace_ok]) ?_
  rw [PT.put, hx]
  simp only
  have rest : ∀ (m1 : PH) (T1 : PT) (x1 : PN), TM m1 L T1 → T1.get n = some x1 → ∀ σ : SS, Ge σ ⟨[(0, .g (.s (.pointer (some ⟨L .t, 0, none⟩)))), (1, .g (.s (.int .i64 (n)))), (5, .ref 5 [])], [(5, .box (gPlace p))], [], m1⟩ →
      vc ⟨Tryz.prog, 53, w, m⟩ c_tree_Tree_put_R4 (finQ ⟨Tryz.prog, 53, w, m⟩ [] fun rs m' => rs = [] ∧ TM m' L ((T1.place n p.parent p.name).kid p.parent n)) σ := by
    intro m1 T1 x1 hT1 hx1 σ hσ
    unfold c_tree_Tree_put_R4
    rw [vc_seq]
    refine vc_gh_of_ge hσ ?_
    simp (maxSteps := 2000000) only [vc_rgq, qsegs_n, qops_cons, vcqOp, vcOp, isRd, ev, look, put_mk, ↓reduceIte, Nat.add_zero, Bool.true_and, true_and]
    refine ld_of _ (hT1.s_map kn_m) rfl ?_
    simp (maxSteps := 2000000) only [qops_cons, vcqOp, vcOp, isRd, ev, look, put_mk, Nat.reduceEqDiff, ↓reduceIte, reduceCtorEq, Bool.true_and, true_and]
    refine hT1.lk kn_m n ?_
    rw [hx1]
    simp (maxSteps := 2000000) only [segs_n, ops_cons, qsegs_nil, qops_nil, qops_cons, vcqOp, vcOp, isRd, ev, look, put_mk, Nat.reduceEqDiff, ↓reduceIte, reduceCtorEq, Nat.add_zero, Bool.true_and, true_and, getT_nil, gPlace_fits, nptr_some]
    refine hT1.place hx1 fun m2 hT2 => ?_
    simp (maxSteps := 2000000) only [vc_seq, vc_rgq, thenQ_n, kKeep_eq, segs_nil, ops_nil, qsegs_n, qops_cons, vcqOp, vcOp, isRd, ev, look, put_mk, put_mk0, keep_mk, keepL, Nat.reduceEqDiff, ↓reduceIte, reduceCtorEq, Nat.add_zero, Bool.true_and, true_and]
    refine ld_of _ (hT2.s_map kn_m) rfl ?_
    simp (maxSteps := 2000000) only [segs_n, ops_cons, qsegs_nil, qops_nil, qops_cons, vcqOp, vcOp, isRd, ev, look, put_mk, GV.getT, Nat.reduceEqDiff, ↓reduceIte, reduceCtorEq, List.nil_append, Bool.true_and, Bool.not_false, true_and, getT_nil, fits_s, gPlace_fld0, gPlace_get0]
    refine hT2.lk kn_m _ ?_
    simp (maxSteps := 2000000) only [vc_seq, vc_rg, thenQ_n, kKeep_eq, segs_nil, segs_n, ops_nil, ops_cons, vcOp, ev, look, put_mk, keep_mk, keepL, Value.oneCell', cond_true, Nat.reduceEqDiff, ↓reduceIte, reduceCtorEq]
    cases hq : (T1.place n p.parent p.name).get p.parent with
    | none =>
      simp (maxSteps := 2000000) only [nptr_none]
      refine eq_of eqNode0 ?_
      simp (maxSteps := 2000000) only [vc_skip, vc_ite, thenQ_n, kKeep_eq, finQ_n, segs_nil, ops_nil, ev, look, put_mk, keep_mk, keepL, Nat.reduceEqDiff, ↓reduceIte, Bool.not_true, ↓br_ft, Bool.bne_true]
      refine fin_m _ rfl (fun _ _ h => h) ⟨rfl, ?_⟩
      rw [PT.kid, mod_none hq]
      exact hT2
    | some y =>
      simp (maxSteps := 2000000) only [nptr_some]
      refine eq_of (eqNode _) ?_
      simp (maxSteps := 2000000) only [vc_rg, vc_ite, thenQ_n, kKeep_eq, segs_nil, segs_n, ops_nil, ops_cons, vcOp, ev, look, put_mk, keep_mk, keepL, Nat.reduceEqDiff, ↓reduceIte, Nat.zero_add, Bool.not_false, ↓br_tt, Bool.bne_true]
      refine ld_of _ (hT2.s_node kn_m hq).2.2.2.1 rfl ?_
      simp (maxSteps := 2000000) only [ops_cons, vcOp, ev, look, put_mk, Value.oneCell', cond_true, Nat.reduceEqDiff, ↓reduceIte]
      refine hT2.kid hq fun m3 hT3 => ?_
      simp (maxSteps := 2000000) only [kKeep_eq, finQ_n, segs_nil, ops_nil, put_mk0, keep_mk, keepL]
      exact fin_m _ rfl (fun _ _ h => h) ⟨rfl, hT3⟩
  simp (maxSteps := 2000000) only [c_tree_Tree_put, vc_seq, vc_rg, vc_rgq, thenQ_n, kKeep_eq, segs_nil, segs_n, ops_nil, ops_cons, qsegs_n, qops_cons, vcqOp, vcOp, isRd, ev, look, updL, put_mk, keep_mk, keepL, Nat.reduceEqDiff, Nat.reduceAdd, ↓reduceIte, reduceCtorEq, Nat.zero_add, Nat.add_zero, Bool.true_and, true_and, initF, initP, Int.reduceAdd, ptr]
  refine ld_of _ (hT.s_map kn_m) rfl ?_
  simp (maxSteps := 2000000) only [qops_cons, vcqOp, vcOp, isRd, ev, look, put_mk, ↓reduceIte, reduceCtorEq, Nat.add_zero, Bool.true_and, true_and]
  refine ld_of _ (hT.s_map kn_m) rfl ?_
  simp (maxSteps := 2000000) only [qops_cons, vcqOp, vcOp, isRd, ev, look, put_mk, Nat.reduceEqDiff, ↓reduceIte, reduceCtorEq, Bool.true_and, true_and]
  refine hT.lk kn_m n ?_
  rw [hx]
  simp (maxSteps := 2000000) only [qops_cons, vcqOp, vcOp, isRd, ev, look, put_mk, ↓reduceIte, Nat.add_zero, Bool.true_and, true_and, nptr_some]
  refine ld_of _ (hT.s_node kn_m hx).1 rfl ?_
  simp (maxSteps := 2000000) only [segs_n, ops_cons, qsegs_nil, qops_nil, vcOp, ev, look, put_mk, Nat.reduceEqDiff, ↓reduceIte]
  refine hT.lk kn_m _ ?_
  simp (maxSteps := 2000000) only [vc_seq, vc_rg, thenQ_n, kKeep_eq, segs_nil, segs_n, ops_nil, ops_cons, vcOp, ev, look, put_mk, keep_mk, keepL, Value.oneCell', cond_true, Nat.reduceEqDiff, ↓reduceIte, reduceCtorEq]
  cases hq : T.get x.parent with
  | none =>
    simp (maxSteps := 2000000) only [nptr_none]
    refine eq_of eqNode0 ?_
    simp (maxSteps := 2000000) only [vc_skip, vc_ite, thenQ_n, kKeep_eq, segs_nil, ops_nil, ev, look, put_mk, keep_mk, keepL, Nat.reduceEqDiff, ↓reduceIte, reduceCtorEq, Bool.not_true, ↓br_ft, Bool.bne_true]
    rw [show T.unkid x.parent n = T from mod_none hq]
    refine rest m T x hT hx _ (ge_of ?_ ?_ rfl rfl rfl)
    · simp [frIn, look]
    · simp [pvIn, look]
  | some y =>
    simp (maxSteps := 2000000) only [nptr_some]
    refine eq_of (eqNode _) ?_
    simp (maxSteps := 2000000) only [vc_rg, vc_ite, thenQ_n, kKeep_eq, segs_nil, segs_n, ops_nil, ops_cons, vcOp, ev, look, put_mk, keep_mk, keepL, Nat.reduceEqDiff, ↓reduceIte, reduceCtorEq, Nat.zero_add, Bool.not_false, ↓br_tt, Bool.bne_true]
    refine ld_of _ (hT.s_node kn_m hq).2.2.2.1 rfl ?_
    simp (maxSteps := 2000000) only [ops_cons, vcOp, ev, look, put_mk, Nat.reduceEqDiff, ↓reduceIte, reduceCtorEq]
    refine hT.unkid hq fun m2 hT2 => ?_
    simp (maxSteps := 2000000) only [thenQ_n, kKeep_eq, segs_nil, ops_nil, look, put_mk0, keep_mk, keepL, Nat.reduceEqDiff, ↓reduceIte, reduceCtorEq]
    obtain ⟨x1, hx1⟩ : ∃ x1, (T.unkid x.parent n).get n = some x1 := by rw [get_unkid, hx]; split <;> exact ⟨_, rfl⟩
    refine rest m2 _ x1 hT2 hx1 _ (ge_of ?_ ?_ rfl rfl rfl)
    · simp [frIn, look]
    · simp [pvIn, look]

/-- An attribute. -/
theorem attr_spec (w : World) (m : PH) (L : Lay) (T : PT) (n : Int) (key value : ByteArray) (x : PN) (hx : T.get n = some x) (hT : TM m L T) :
    Spec Tryz.prog f_tree_node_attr [ptr (L (.nd n)), .string key, .string value] m w fun rs m' => rs = [] ∧ TM m' L (T.attr n key value) := by
  refine spec_of k_tree_node_attr [.g (.s (ptr (L (.nd n)))), .g (.s (.string key)), .g (.s (.string value))] (by simp) (by simp [AV.ok, GV.ok, Value.oneCell', ptr]) ?_
  simp (maxSteps := 2000000) only [c_tree_node_attr, vc_seq, vc_rg, vc_ite, thenQ_n, kKeep_eq, segs_nil, segs_n, ops_nil, ops_cons, vcOp, ev, look, put_mk, keep_mk, keepL, binV, binC, Value.oneCell', cond_true, Nat.reduceEqDiff, Nat.reduceAdd, ↓reduceIte, reduceCtorEq, Nat.zero_add, Bool.true_and, true_and, initF, initP, Int.reduceAdd, decide_eq_true_eq, decide_eq_false_iff_not, br_t, ptr]
  refine ⟨fun hv => ?_, fun hv => ?_⟩
  · subst hv
    refine ld_of _ (hT.s_node kn_m hx).2.2.1 rfl ?_
    simp (maxSteps := 2000000) only [ops_cons, vcOp, ev, look, put_mk, Nat.reduceEqDiff, ↓reduceIte, reduceCtorEq, decide_true]
    refine hT.attrDel hx fun m2 hT2 => ?_
    simp (maxSteps := 2000000) only [kKeep_eq, finQ_n, segs_nil, ops_nil, put_mk0, keep_mk, keepL]
    exact fin_m _ rfl (fun _ _ h => h) ⟨rfl, hT2⟩
  · refine ld_of _ (hT.s_node kn_m hx).2.2.1 rfl ?_
    simp (maxSteps := 2000000) only [ops_cons, vcOp, ev, look, put_mk, Nat.reduceEqDiff, ↓reduceIte, reduceCtorEq]
    refine hT.attrPut hv hx fun m2 hT2 => ?_
    simp (maxSteps := 2000000) only [kKeep_eq, finQ_n, segs_nil, ops_nil, put_mk0, keep_mk, keepL]
    exact fin_m _ rfl (fun _ _ h => h) ⟨rfl, hT2⟩
end Go.Proofs.YtmjiojflncffeaaGreat.Vc

