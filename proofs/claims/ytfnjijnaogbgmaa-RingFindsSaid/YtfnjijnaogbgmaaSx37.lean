/- A reckoner of Go code over told values: regions that draw their order, with truth values that are known. -/
import Derived.Test.YtfnjijnaogbgmaaSx36
namespace Go.Sx
open Go Go.RowKit
set_option linter.unusedVariables false
set_option linter.unusedSimpArgs false

/-- What is known of slots. -/
def pinOf : List (Nat × Bool) → Nat → Option Bool
  | [], _ => none
  | p :: ps, t => if p.1 = t then some p.2 else pinOf ps t
def pinB (b : Option Bool) (v : AV) : AV :=
  match b with
  | some b => (match v with | .bool (.t _) => .bool (.l b) | v => v)
  | none => v
def pinBO (b : Option Bool) (v : AV) : Obs :=
  match b with
  | some b => (match v with | .bool (.t f) => [fun _ => f () = b] | _ => [])
  | none => []
def pinD (pins : List (Nat × Bool)) (t : Option Nat) : Option Bool :=
  match t with
  | some t => pinOf pins t
  | none => none
def pinR (pins : List (Nat × Bool)) (t : Option Nat) (d : DR) : DR := ⟨pinB (pinD pins t) d.v, d.up, d.rd, d.lt⟩
theorem pin_ok {S : Sg} {b : Option Bool} {x : AV} {v : Value} (ho : allO (pinBO b x)) (h : VR S x v) : VR S (pinB b x) v := by
  unfold pinB
  cases b with
  | none => exact h
  | some b =>
    simp only
    split
    · simp only [pinBO, allO] at ho
      simp only [VR] at h ⊢
      rw [h]
      exact congrArg Value.bool (by simpa [SB.d] using ho.1)
    · exact h
def drunP (E : Env) (R : List Oper) (pins : List (Nat × Bool)) : List Oper → List AV → List Blk → Option (List DR × Obs × List AV × List Blk)
  | [], fr, h => some ([], [], fr, h)
  | o :: os, fr, h =>
    match dstep E R fr h o with
    | some (d, ob) =>
      (match drunP E R pins os (putO fr o.dst (pinB (pinD pins o.dst) d.v)) (hsets h d.up) with
       | some (ds, obs, fr', h') => some (pinR pins o.dst d :: ds, pinBO (pinD pins o.dst) d.v ++ (ob ++ obs), fr', h')
       | none => none)
    | none => none
/-- The same, with what matters for the order alone. -/
def drunF (E : Env) (R : List Oper) (pins : List (Nat × Bool)) : List Oper → List AV → List Blk → Option (List FL × Obs × List AV × List Blk)
  | [], fr, h => some ([], [], fr, h)
  | o :: os, fr, h =>
    match dstep E R fr h o with
    | some (d, ob) =>
      (match drunF E R pins os (putO fr o.dst (pinB (pinD pins o.dst) d.v)) (hsets h d.up) with
       | some (fs, obs, fr', h') => some (fl d :: fs, pinBO (pinD pins o.dst) d.v ++ (ob ++ obs), fr', h')
       | none => none)
    | none => none
theorem drunF_of {E : Env} {R : List Oper} {pins : List (Nat × Bool)} : ∀ (os : List Oper) (fr : List AV) (h : List Blk) (ff : List FL) (obs : Obs) (fr' : List AV) (h' : List Blk), drunF E R pins os fr h = some (ff, obs, fr', h') → ∃ ds, drunP E R pins os fr h = some (ds, obs, fr', h') ∧ flags ds = ff
  | [], fr, h, ff, obs, fr', h', hd => by
    simp only [drunF, Option.some.injEq, Prod.mk.injEq] at hd
    obtain ⟨rfl, rfl, rfl, rfl⟩ := hd
    exact ⟨[], rfl, rfl⟩
  | o :: os, fr, h, ff, obs, fr', h', hd => by
    simp only [drunF] at hd
    split at hd
    · rename_i d ob hdo
      split at hd
      · rename_i ds2 obs2 fr2 h2 hd2
        simp only [Option.some.injEq, Prod.mk.injEq] at hd
        obtain ⟨rfl, rfl, rfl, rfl⟩ := hd
        obtain ⟨ds, h3, h4⟩ := drunF_of os _ _ _ _ _ _ hd2
        refine ⟨pinR pins o.dst d :: ds, by simp only [drunP, hdo, h3], by rw [← h4]; rfl⟩
      · cases hd
    · cases hd
theorem drunP_at {E : Env} {R : List Oper} {pins : List (Nat × Bool)} : ∀ (os : List Oper) (fr : List AV) (h : List Blk) (ds : List DR) (obs : Obs) (fr' : List AV) (h' : List Blk), drunP E R pins os fr h = some (ds, obs, fr', h') → allO obs →
    ds.length = os.length ∧ fr' = frN os ds fr ∧ h' = hN ds h ∧ ∀ (i : Nat) (o : Oper), os[i]? = some o → ∃ (d : DR) (ob : Obs), ds[i]? = some (pinR pins o.dst d) ∧ dstepK E R (frN (os.take i) (ds.take i) fr) (hN (ds.take i) h) o = some (d, ob) ∧ allO ob ∧ allO (pinBO (pinD pins o.dst) d.v)
  | [], fr, h, ds, obs, fr', h', hd, ho => by
    simp only [drunP, Option.some.injEq, Prod.mk.injEq] at hd
    obtain ⟨rfl, rfl, rfl, rfl⟩ := hd
    exact ⟨rfl, rfl, rfl, fun i o hi => by simp at hi⟩
  | o :: os, fr, h, ds, obs, fr', h', hd, ho => by
    simp only [drunP] at hd
    split at hd
    · rename_i d ob hdo
      rw [dstep_eq] at hdo
      split at hd
      · rename_i ds2 obs2 fr2 h2 hd2
        simp only [Option.some.injEq, Prod.mk.injEq] at hd
        obtain ⟨rfl, rfl, rfl, rfl⟩ := hd
        rw [allO_append, allO_append] at ho
        obtain ⟨h3, h4, h5, h6⟩ := drunP_at os _ _ _ _ _ _ hd2 ho.2.2
        refine ⟨by simp [h3], by rw [h4]; rfl, by rw [h5]; rfl, fun i o' hi => ?_⟩
        cases i with
        | zero =>
          simp only [List.getElem?_cons_zero, Option.some.injEq] at hi
          subst hi
          exact ⟨d, ob, rfl, by simpa [frN, hN] using hdo, ho.2.1, ho.1⟩
        | succ i =>
          obtain ⟨d', ob', h7, h8, h9, h10⟩ := h6 i o' (by simpa using hi)
          exact ⟨d', ob', by simpa using h7, by simpa [frN, hN, pinR] using h8, h9, h10⟩
      · cases hd
    · cases hd
theorem drawP_ok {G : Gl} {pins : List (Nat × Bool)} (hE : EnvOk G.P G.E) {S : Sg} {fr fr' : List AV} {h h' : List Blk} {a : Act} {w : World} (hc : CfgR G.W G.S0 S fr h a w) {id : Nat} {ops : Array Oper} {ds : List DR} {obs : Obs} (hd : drunP G.E ops.toList pins ops.toList fr h = some (ds, obs, fr', h'))
    (hok : dok ops.toList (flags ds) = true) (ho : allO obs) {Q : Exit → Act → World → Prop} (hK : ∀ S' a' w', CfgR G.W G.S0 S' fr' h' a' w' → Q .normal a' w') : (Code.region id ops true).wpIn G.Fe 0 G.P Q a w := by
  obtain ⟨hlen, hfr', hh', hat⟩ := drunP_at ops.toList fr h ds obs fr' h' hd ho
  simp only [dok, Bool.and_eq_true] at hok
  obtain ⟨hdist, hpre0, hall⟩ := hok
  have hspec : ∀ (j : Nat) (o : Oper) (d : DR), ops.toList[j]? = some o → ds[j]? = some d → (∀ p ∈ preds o, p < j) ∧ ∀ (i : Nat) (o1 : Oper) (d1 : DR), i < j → ops.toList[i]? = some o1 → ds[i]? = some d1 →
      clash ops.toList o1 o (fl d1) (fl d) = true → Anc ops.toList i j := by
    intro j o d hj hdj
    have h2 := dokAll_spec _ [] _ hall j _ (los_get (R := ops.toList) _ _ j o (fl d) hj (flags_get ds j d hdj))
    simp only [List.length_nil, Nat.zero_add, List.nil_append] at h2
    refine ⟨fun p hp => by have := predsOk_spec _ 0 hpre0 j o hj p hp; omega, fun i o1 d1 hij hi hdi hcl => masks_bit ops.toList [] [] rfl rfl (by intro j i hb; simp at hb) j i (h2 i _ hij (los_get (R := ops.toList) _ _ i o1 (fl d1) hi (flags_get ds i d1 hdi)) (clash_lo hcl))⟩
  have hds : ∀ (i : Nat) (o : Oper), ops.toList[i]? = some o → ∃ d, ds[i]? = some d := fun i o hi => by
    obtain ⟨d, ob, h1, _⟩ := hat i o hi
    exact ⟨_, h1⟩
  -- all orders
  have main : ∀ (fuel : Nat) (listed : Array Bool) (S : Sg) (a : Act) (w : World), listed.size = ops.size → (∀ j, ops.size ≤ j → True) → ((List.range ops.size).filter fun i => !listed.getD i true).length ≤ fuel →
      Inv G.W G.S0 ops.toList ds fr h (fun i => listed.getD i false) S a w → wpAnyIn G.Fe 0 G.P .any ops Q fuel listed a w := by
    intro fuel
    have ready_spec : ∀ (listed : Array Bool) (i : Nat), i ∈ Region.ready .any ops listed ↔ i < ops.size ∧ listed.getD i true = false ∧ ∃ o, ops.toList[i]? = some o ∧ ∀ p ∈ preds o, listed.getD p false = true := by
      intro listed i
      simp only [Region.ready, List.mem_filter, List.mem_range, Bool.and_eq_true, Bool.not_eq_true']
      constructor
      · rintro ⟨h1, h2, h3⟩
        refine ⟨h1, h2, ops[i], by simp [h1], ?_⟩
        have e : ops[i]? = some ops[i] := by simp [h1]
        rw [e] at h3
        simp only [Option.map_some, Option.getD_some] at h3
        intro p hp
        simp only [preds, List.mem_map, List.mem_filter] at hp
        obtain ⟨ed, ⟨h4, h5⟩, rfl⟩ := hp
        have := Array.all_eq_true_iff_forall_mem.1 h3 ed (by simpa using h4)
        simpa [h5] using this
      · rintro ⟨h1, h2, o, h3, h4⟩
        refine ⟨h1, h2, ?_⟩
        have e : ops[i]? = some o := by simpa using h3
        rw [e]
        simp only [Option.map_some, Option.getD_some]
        rw [Array.all_eq_true_iff_forall_mem]
        intro ed hed
        by_cases hb : Region.binds .any ed = true
        · have := h4 ed.on (by simp only [preds, List.mem_map, List.mem_filter]; exact ⟨ed, ⟨by simpa using hed, hb⟩, rfl⟩)
          simp [this]
        · simp [hb]
    -- nothing is ready: all are listed
    have finish : ∀ (listed : Array Bool) (S : Sg) (a : Act) (w : World), listed.size = ops.size → Region.ready .any ops listed = [] → Inv G.W G.S0 ops.toList ds fr h (fun i => listed.getD i false) S a w → Q .normal a w := by
      intro listed S a w hls hr hi
      have hall : ∀ i, i < ops.size → listed.getD i false = true := by
        intro i
        induction i using Nat.strongRecOn with
        | _ i ih =>
          intro hlt
          cases hl : listed.getD i false with
          | true => rfl
          | false =>
            exfalso
            have hlt' : i < listed.size := by rw [hls]; exact hlt
            have hmem : i ∈ Region.ready .any ops listed := by
              rw [ready_spec]
              have e : ops.toList[i]? = some ops[i] := by simp [hlt]
              refine ⟨hlt, by simpa [Array.getD, hlt'] using hl, ops[i], e, fun p hp => ?_⟩
              obtain ⟨d, hdi⟩ := hds i _ e
              have := (hspec i _ d e hdi).1 p hp
              exact ih p this (by omega)
            rw [hr] at hmem
            simp at hmem
      have hnl : ds.length = ops.size := by rw [hlen]; simp
      have hhl : hLis (fun i => listed.getD i false) 0 ds h = h' := by
        rw [hh']
        have := hLis_take ds.length 0 ds h
        rw [List.take_length] at this
        rw [← this]
        refine hLis_congr 0 ds h fun k d hk _ => ?_
        have hkl : k < ds.length := (List.getElem?_eq_some_iff.1 hk).1
        have := hall k (by omega)
        simp only [Nat.zero_add]
        rw [this]
        simp [hkl]
      refine hK S a w ⟨by rw [← hhl]; exact hi.rel, hi.old, hi.le, fun id hid => by have := hN_le ds h id (by rw [← hh']; exact hid); exact hi.fresh id this.1 fun k d _ hk => this.2 k d hk, ⟨?_, ?_⟩, hi.defers⟩
      · rw [hi.size, hfr', frN_length]
      · intro t
        rw [hfr']
        rcases frN_spec ops.toList ds fr t hlen with ⟨ht, i, o, d, h1, h2, h3, h4⟩ | ⟨h1, h2⟩
        · rw [h4]
          have hil : i < ops.size := by simpa using (List.getElem?_eq_some_iff.1 h1).1
          exact hi.done t i o d ht (hall i hil) h1 h2 h3
        · rw [h2]
          by_cases ht : t < fr.length
          · exact hi.rest t fun i o _ hio => h1 ht i o hio
          · have : get fr t = .any := by
              have : ∀ (l : List AV) (n : Nat), l.length ≤ n → get l n = .any := by
                intro l
                induction l with
                | nil => intro n _; rfl
                | cons x l ih => intro n hn; cases n with | zero => simp at hn | succ n => exact ih n (by simpa using hn)
              exact this fr t (by omega)
            rw [this]
            simp only [VR]
    induction fuel with
    | zero =>
      intro listed S a w hls _ hf hi
      have hr : Region.ready .any ops listed = [] := by
        rw [List.eq_nil_iff_forall_not_mem]
        intro i hmem
        rw [ready_spec] at hmem
        have hm : i ∈ (List.range ops.size).filter fun i => !listed.getD i true := by
          simp only [List.mem_filter, List.mem_range]
          exact ⟨hmem.1, by rw [hmem.2.1]; rfl⟩
        have := List.length_pos_of_mem hm
        omega
      exact ⟨hr, finish listed S a w hls hr hi⟩
    | succ fuel ih =>
      intro listed S a w hls _ hf hi
      refine ⟨fun hr => finish listed S a w hls hr hi, fun i hmem => ?_⟩
      rw [ready_spec] at hmem
      obtain ⟨hin, hnl, o, hio, hpre⟩ := hmem
      obtain ⟨d0, ob, hdi0, hstep, hob, hpin⟩ := hat i o hio
      obtain ⟨d, hd0⟩ : ∃ d, pinR pins o.dst d0 = d := ⟨_, rfl⟩
      have hdi : ds[i]? = some d := by rw [← hd0]; exact hdi0
      have hil : i < listed.size := by rw [hls]; exact hin
      have hLi : listed.getD i false = false := by simpa [Array.getD, hil] using hnl
      have hL' : ∀ k, (listed.setIfInBounds i true).getD k false = if k = i then true else listed.getD k false := by
        intro k
        by_cases e : k = i
        · subst e; simp [Array.getD, hil]
        · by_cases hk : k < listed.size
          · simp [Array.getD, hk, Array.getElem_setIfInBounds, Ne.symm e, e]
          · simp [Array.getD, hk, e]
      have hanc : ∀ k, Anc ops.toList k i → listed.getD k false = true := by
        intro k hk
        cases hk with
        | one h1 h2 => rw [hio] at h1; cases h1; exact hpre k h2
        | more h1 h2 h3 => rw [hio] at h1; cases h1; exact hi.closed _ (hpre _ h2) k h3
      have hanc' : ∀ k, Anc ops.toList i k → listed.getD k false = false := by
        intro k hk
        cases hlk : listed.getD k false with
        | false => rfl
        | true => have := hi.closed k hlk i hk; rw [hLi] at this; cases this
      -- the slots that it looks at
      have hkeep : FrR S (keep (looks ops.toList o) 0 (frN (ops.toList.take i) (ds.take i) fr)) a := by
        refine ⟨by rw [keep_length, frN_length]; exact hi.size, fun t => ?_⟩
        rw [keep_get, Nat.zero_add]
        by_cases ht : t ∈ looks ops.toList o
        · rw [if_pos ht]
          rcases frN_spec (ops.toList.take i) (ds.take i) fr t (by rw [List.length_take, List.length_take, hlen]) with ⟨htl, j, o', d', h1, h2, h3, h4⟩ | ⟨h1, h2⟩
          · rw [h4]
            have hji : j < i := by
              have := (List.getElem?_eq_some_iff.1 h1).1
              rw [List.length_take] at this
              omega
            rw [List.getElem?_take, if_pos hji] at h1 h2
            refine hi.done t j o' d' htl ?_ h1 h2 h3
            refine hanc j ((hspec i o d hio hdi).2 j o' d' hji h1 h2 ?_)
            simp [clash, inD_spec h3 ht]
          · rw [h2]
            by_cases htl : t < fr.length
            · refine hi.rest t fun k o' hLk hko hdk => ?_
              rcases Nat.lt_trichotomy k i with hk | hk | hk
              · exact h1 htl k o' (by rw [List.getElem?_take, if_pos hk]; exact hko) hdk
              · subst hk; rw [hLi] at hLk; cases hLk
              · obtain ⟨d', hdk'⟩ := hds k o' hko
                have := hanc' k ((hspec k o' d' hko hdk').2 i o d hk hio hdi (by simp [clash, inD_spec hdk ht]))
                (try simp only at hLk)
                rw [this] at hLk; cases hLk
            · have : get fr t = .any := by
                have : ∀ (l : List AV) (n : Nat), l.length ≤ n → get l n = .any := by
                  intro l
                  induction l with
                  | nil => intro n _; rfl
                  | cons x l ih => intro n hn; cases n with | zero => simp at hn | succ n => exact ih n (by simpa using hn)
                exact this fr t (by omega)
              rw [this]
              simp only [VR]
        · rw [if_neg ht]
          simp only [VR]
      -- memory that it looks at
      have hmem : d.lt = none → (d.up ≠ [] ∨ d.rd ≠ []) → hLis (fun k => listed.getD k false) 0 ds h = hN (ds.take i) h := by
        intro hn0 hm
        have := hLis_take i 0 ds h
        rw [← this]
        refine hLis_congr 0 ds h fun k d' hk hu => ?_
        simp only [Nat.zero_add]
        have hkl : k < ops.toList.length := by rw [← hlen]; exact (List.getElem?_eq_some_iff.1 hk).1
        have hko : ops.toList[k]? = some ops.toList[k] := List.getElem?_eq_getElem hkl
        rcases Nat.lt_trichotomy k i with hki | hki | hki
        · rw [hanc k ((hspec i o d hio hdi).2 k _ d' hki hko hk (clash_l (meets_full hu hn0 hm)))]
          simp [hki]
        · subst hki
          rw [hLi]; simp
        · rw [hanc' k ((hspec k _ d' hko hk).2 i o d hki hio hdi (clash_r (meets_full hu hn0 hm)))]
          simp [Nat.lt_asymm hki]
      have hlite : ∀ l, d.lt = some l → ∀ id ∈ l, hget (hN (ds.take i) h) id = hget (hLis (fun k => listed.getD k false) 0 ds h) id := by
        intro l hl id hid
        have := hLis_take i 0 ds h
        rw [← this]
        refine hLis_at id 0 ds h h rfl fun k d' hk hu => ?_
        simp only [Nat.zero_add]
        have hkl : k < ops.toList.length := by rw [← hlen]; exact (List.getElem?_eq_some_iff.1 hk).1
        have hko : ops.toList[k]? = some ops.toList[k] := List.getElem?_eq_getElem hkl
        rcases Nat.lt_trichotomy k i with hki | hki | hki
        · rw [hanc k ((hspec i o d hio hdi).2 k _ d' hki hko hk (clash_l (meets_lite hu hl hid)))]
          simp [hki]
        · subst hki
          rw [hLi]; simp
        · rw [hanc' k ((hspec k _ d' hko hk).2 i o d hki hio hdi (clash_r (meets_lite hu hl hid)))]
          simp [Nat.lt_asymm hki]
      have hdis : ∀ (k : Nat) (d' : DR), ds[k]? = some d' → i < k → listed.getD k false = true → ∀ id ∈ fstN d.up, id ∉ fstN d'.up := by
        intro k d' hk hik hlk id h1 h2
        have hkl : k < ops.toList.length := by rw [← hlen]; exact (List.getElem?_eq_some_iff.1 hk).1
        have hko : ops.toList[k]? = some ops.toList[k] := List.getElem?_eq_getElem hkl
        have := hanc' k ((hspec k _ d' hko hk).2 i o d hik hio hdi (clash_l (meets_ups h1 h2)))
        rw [this] at hlk
        cases hlk
      have hafter : hLis (fun k => (listed.setIfInBounds i true).getD k false) 0 ds h = hsets (hLis (fun k => listed.getD k false) 0 ds h) d.up :=
        hLis_add i 0 ds h d hdi (by rw [Nat.zero_add]; exact hLi) (by rw [Nat.zero_add, hL', if_pos rfl]) (fun k hk => by rw [hL', if_neg (by omega)]) fun k d' hk hik hlk => hdis k d' hk hik (by simpa using hlk)
      have hnew : ∀ id ∈ fstN d.up, (hN (ds.take i) h).length ≤ id → S.σ id = none := by
        intro id hid hn
        obtain ⟨h1, h2⟩ := hN_le _ h id hn
        refine hi.fresh id h1 fun k d' hlk hk => ?_
        rcases Nat.lt_trichotomy k i with hki | hki | hki
        · exact h2 k d' (by rw [List.getElem?_take, if_pos hki]; exact hk)
        · subst hki
          (try simp only at hlk)
          rw [hLi] at hlk; cases hlk
        · exact hdis k d' hk hki hlk id hid
      have hstep1 : ∀ {fr1 : List AV} {r : Res}, step1 G.E (Sx.ev fr1) (hN (ds.take i) h) (hN (ds.take i) h).length o = some r → d.lt = liteOf (Sx.ev fr1) o.op → d.rd = r.rd → step1 G.E (Sx.ev fr1) (hLis (fun k => listed.getD k false) 0 ds h) (hN (ds.take i) h).length o = some r := by
        intro fr1 r hr h1 h2
        cases hlt : liteOf (Sx.ev fr1) o.op with
        | some l => exact (lite_step (E := G.E) hlt (hlite l (by rw [h1, hlt]))).symm.trans hr
        | none =>
          by_cases hrd : r.rd = []
          · exact step1_pop hr hrd
          · rw [hmem (by rw [h1, hlt]) (.inr (by rw [h2]; exact hrd))]
            exact hr
      -- what holds behind it
      have cont : ∀ S' v w', S.le S' → (∀ b, b < G.W.heap.size → S'.F b = S.F b) → (∀ id, id ∉ fstN d.up → S'.σ id = S.σ id) → Rel G.W S' (hsets (hLis (fun k => listed.getD k false) 0 ds h) d.up) w' → VR S' d.v v →
          wpAnyIn G.Fe 0 G.P .any ops Q fuel (listed.setIfInBounds i true) (a.put o.dst v) w' := by
        intro S' v w' hS hold hfresh hrel hv
        refine ih (listed.setIfInBounds i true) S' (a.put o.dst v) w' (by simpa using hls) (fun _ _ => trivial) ?_ ?_
        · have hm : i ∈ (List.range ops.size).filter fun i => !listed.getD i true := by
            simp only [List.mem_filter, List.mem_range]
            exact ⟨hin, by rw [hnl]; rfl⟩
          have hsub : ((List.range ops.size).filter fun i_1 => !(listed.setIfInBounds i true).getD i_1 true) = ((List.range ops.size).filter fun i => !listed.getD i true).filter fun k => !(k == i) := by
            rw [List.filter_filter]
            refine List.filter_congr fun k hk => ?_
            have hkl : k < listed.size := by rw [hls]; simpa using hk
            by_cases e : k = i
            · subst e; simp [Array.getD, hkl]
            · simp [Array.getD, hkl, Array.getElem_setIfInBounds, Ne.symm e, e]
          rw [hsub]
          have hlt : (((List.range ops.size).filter fun i => !listed.getD i true).filter fun k => !(k == i)).length < ((List.range ops.size).filter fun i => !listed.getD i true).length := by
            rw [List.length_filter_lt_length_iff_exists]
            exact ⟨i, hm, by simp⟩
          omega
        · refine ⟨by rw [hafter]; exact hrel, fun b hb => (hold b hb).trans (hi.old b hb), hi.le.trans hS, fun id hid hk => by
            rw [hfresh id (hk i d (by rw [hL', if_pos rfl]) hdi)]
            refine hi.fresh id hid fun k d' hlk hkd => hk k d' ?_ hkd
            rw [hL']
            by_cases e : k = i
            · simp [e]
            · rw [if_neg e]; exact hlk, by rw [Act.put_size]; exact hi.size, ?_, ?_, ?_, ?_⟩
          · intro t j o' d' htl hLj hjo hjd hdst
            (try simp only at hLj)
            rw [hL'] at hLj
            rw [Act.put_get]
            by_cases e : o.dst = some t ∧ t < a.tmps.size
            · rw [if_pos e]
              have := distinct_spec hdist i j o o' t hio hjo e.1 hdst
              subst this
              rw [hdi] at hjd
              cases hjd
              exact hv
            · rw [if_neg e]
              have hji : j ≠ i := by
                rintro rfl
                rw [hio] at hjo
                cases hjo
                exact e ⟨hdst, by rw [hi.size]; exact htl⟩
              rw [if_neg hji] at hLj
              exact VR.mono hS _ _ (hi.done t j o' d' htl hLj hjo hjd hdst)
          · intro t ht
            have hne : o.dst ≠ some t := ht i o (by rw [hL']; simp) hio
            rw [Act.put_get, if_neg (fun e => hne e.1)]
            refine VR.mono hS _ _ (hi.rest t fun k o' hLk hko => ht k o' ?_ hko)
            (try simp only at hLk ⊢)
            rw [hL']
            by_cases e : k = i
            · simp [e]
            · rw [if_neg e]; exact hLk
          · have := hi.defers.mono hS.F
            cases o.dst <;> exact this
          · intro j hLj k hk
            (try simp only at hLj ⊢)
            rw [hL'] at hLj ⊢
            by_cases e : k = i
            · simp [e]
            · rw [if_neg e]
              by_cases e' : j = i
              · subst e'; exact hanc k hk
              · rw [if_neg e'] at hLj
                exact hi.closed j hLj k hk
      subst hd0
      have cont0 : ∀ S' v w', S.le S' → (∀ b, b < G.W.heap.size → S'.F b = S.F b) → (∀ id, id ∉ fstN d0.up → S'.σ id = S.σ id) → Rel G.W S' (hsets (hLis (fun k => listed.getD k false) 0 ds h) d0.up) w' → VR S' d0.v v →
          wpAnyIn G.Fe 0 G.P .any ops Q fuel (listed.setIfInBounds i true) (a.put o.dst v) w' := fun S' v w' h1 h2 h3 h4 h5 => cont S' v w' h1 h2 h3 h4 (pin_ok hpin h5)
      replace hnew : ∀ id ∈ fstN d0.up, (hN (ds.take i) h).length ≤ id → S.σ id = none := hnew
      -- the operation itself
      have hio' : ops[i]? = some o := by simpa using hio
      simp only [wpOpIn, hio']
      unfold dstepK at hstep
      have eR : ops = ops.toList.toArray := by simp
      have hfresh : d0.up = [((hN (ds.take i) h).length, .dead)] → S.σ (hN (ds.take i) h).length = none := fun hu => hnew _ (by rw [hu]; simp [fstN]) (Nat.le_refl _)
      split at hstep
      · rename_i hw
        have hw' := wantedA_yes hkeep hw
        rw [← eR] at hw'
        rw [if_pos hw']
        cases hst : strips (keep (looks ops.toList o) 0 (frN (ops.toList.take i) (ds.take i) fr)) (oprs o.op) with
        | mk fr1 gs =>
          rw [hst] at hstep
          cases hr : stepD G.E ops.toList (Sx.ev fr1) (hN (ds.take i) h) o with
          | none => simp [hr] at hstep
          | some r =>
            simp only [hr, Option.some.injEq, Prod.mk.injEq] at hstep
            obtain ⟨rfl, rfl⟩ := hstep
            rw [allO_append] at hob
            have old : step1 G.E (Sx.ev fr1) (hN (ds.take i) h) (hN (ds.take i) h).length o = some r → o.wpIn G.Fe 0 G.P a w (wpAnyIn G.Fe 0 G.P .any ops Q fuel (listed.setIfInBounds i true)) Q := fun hr =>
              wpIn_of_wp (step1_nodefer hr) (exec_ok hE hi.rel (strips_ok hkeep hst hob.1) (hstep1 hr rfl rfl) hob.2 hnew cont0)
            unfold stepD at hr
            split at hr
            · split at hr
              · rename_i r' hr'
                obtain rfl := Option.some.inj hr
                exact wpIn_of_wp (mayB_nodefer hr') (mayB_ok hE hi.rel (strips_ok hkeep hst hob.1) hr' hob.2 (hfresh (mayB_up hr')) cont0)
              · exact old hr
            · exact old hr
      · rename_i hw
        have hw' := wantedA_no hkeep hw
        rw [← eR] at hw'
        rw [if_neg (by rw [hw']; simp)]
        refine ⟨fun f _ => G.fe_fn f, ?_⟩
        simp only [Option.some.injEq, Prod.mk.injEq] at hstep
        obtain ⟨rfl, rfl⟩ := hstep
        exact cont0 S undef w (.refl _) (fun _ _ => rfl) (fun _ _ => rfl) hi.rel (show VR S .und undef by simp only [VR])
      · rename_i g hw
        have hw' := wantedA_may hkeep hw
        rw [← eR] at hw'
        cases hst : strips (keep (looks ops.toList o) 0 (frN (ops.toList.take i) (ds.take i) fr)) (oprs o.op) with
        | mk fr1 gs =>
          rw [hst] at hstep
          cases hr : stepM G.E (Sx.ev fr1) (hN (ds.take i) h) o with
          | none => simp [hr] at hstep
          | some r =>
            simp only [hr, Option.some.injEq, Prod.mk.injEq] at hstep
            obtain ⟨rfl, rfl⟩ := hstep
            unfold stepM at hr
            by_cases hg : g ()
            · rw [if_pos (hw'.2 hg)]
              have ho' := gdObs_ok hg hob
              rw [allO_append] at ho'
              split at hr
              · rename_i v obs' rd hr1
                obtain rfl := Option.some.inj hr
                exact wpIn_of_wp (step1_nodefer hr1) (exec_ok (r := ⟨v, [], obs', rd⟩) hE hi.rel (strips_ok hkeep hst ho'.1) (hstep1 hr1 rfl rfl) ho'.2 (fun id hid _ => by cases hid) fun S' v' w' h1 h2 h3 h4 h5 => cont0 S' v' w' h1 h2 h3 h4 (by simp only [VR]; exact ⟨fun _ => h5, fun hn => absurd hg hn⟩))
              · exact wpIn_of_wp (mayB_nodefer hr) (mayB_ok hE hi.rel (strips_ok hkeep hst ho'.1) hr ho'.2 (hfresh (mayB_up hr)) fun S' v' w' h1 h2 h3 h4 h5 => cont0 S' v' w' h1 h2 h3 h4 (by simp only [VR]; exact ⟨fun _ => h5, fun hn => absurd hg hn⟩))
            · rw [if_neg (fun hh => hg (hw'.1 hh))]
              refine ⟨fun f _ => G.fe_fn f, ?_⟩
              have hup : r.up = [] ∨ r.up = [((hN (ds.take i) h).length, .dead)] := by
                split at hr
                · obtain rfl := Option.some.inj hr; exact .inl rfl
                · exact .inr (mayB_up hr)
              refine cont0 S undef w (.refl _) (fun _ _ => rfl) (fun _ _ => rfl) ?_ (by simp only [VR]; exact ⟨fun hh => absurd hh hg, fun _ => trivial⟩)
              rcases hup with hup | hup
              · rw [hup]; exact hi.rel
              · rw [hup]; exact hi.rel.dead (hfresh hup)
      · cases hstep
  refine wpIn_region_any hE.mixed (main ops.size (Array.replicate ops.size false) S a _ (by simp) (fun _ _ => trivial) (Nat.le_trans (List.length_filter_le _ _) (by simp)) ?_)
  have hL0 : (fun i => (Array.replicate ops.size false).getD i false) = fun _ => false := by
    funext i
    simp only [Array.getD]
    split <;> simp
  rw [hL0]
  have hh0 : hLis (fun _ => false) 0 ds h = h := hLis_none 0 ds h _ fun _ _ => rfl
  refine ⟨by rw [hh0]; exact ⟨hc.rel.below.drew, hc.rel.fv, hc.rel.blk, hc.rel.own, hc.rel.inj⟩, hc.old, hc.le, fun id hid _ => hc.fresh id hid, hc.fr.size, (fun t i o d _ hf => by cases hf), (fun t _ => hc.fr.get t), hc.defers, (fun j hf => by cases hf)⟩

/-- A region that draws its order, where some truth values are known. -/
theorem AM.drawP {P : Program} {G : Gl} {E : Env} {rs : List ResultVar} (hG : GOk P G E rs) (pins : List (Nat × Bool)) {fr fr' : List AV} {h h' : List Blk} {k : List It} {id : Nat} {ops : Array Oper} {obs : Obs} {ff : List FL} (hd : drunF E ops.toList pins ops.toList fr h = some (ff, obs, fr', h'))
    (hok : dok ops.toList ff = true) (ho : allO obs) (h1 : AM G ⟨fr', h', k⟩) : AM G ⟨fr, h, .code (.region id ops true) :: k⟩ := by
  have he := hG.e
  subst he
  obtain ⟨ds, hd2, rfl⟩ := drunF_of _ _ _ _ _ _ _ hd
  refine ⟨fun S a w hc => ?_⟩
  simp only [wpK]
  exact drawP_ok hG.ok hc hd2 hok ho fun S' a' w' hc' => h1.go S' a' w' hc'
/-- A run that stands ahead of a region that draws. -/
def atU (k : List It) : Bool :=
  match k with
  | .code (.region _ _ true) :: _ => true
  | _ => false
def runU (E : Env) : Nat → Cfg → Obs → Cfg × Obs
  | 0, c, obs => (c, obs)
  | n + 1, c, obs =>
    match atU c.k with
    | true => (c, obs)
    | false =>
      match step E c with
      | some (c', o) => runU E n c' (o ++ obs)
      | none => (c, obs)
theorem runU_ok {G : Gl} (hE : EnvOk G.P G.E) : ∀ (n : Nat) (c : Cfg) (obs : Obs), allO (runU G.E n c obs).2 → AM G (runU G.E n c obs).1 → allO obs ∧ AM G c
  | 0, c, obs, ho, h => ⟨ho, h⟩
  | n + 1, c, obs, ho, h => by
    unfold runU at ho h
    cases hd : atU c.k with
    | true => simp only [hd] at ho h; exact ⟨ho, h⟩
    | false =>
      simp only [hd] at ho h
      cases hs : step G.E c with
      | none =>
        simp only [hs] at ho h
        exact ⟨ho, h⟩
      | some r =>
        obtain ⟨c', o⟩ := r
        simp only [hs] at ho h
        obtain ⟨h1, h2⟩ := runU_ok hE n c' (o ++ obs) ho h
        rw [allO_append] at h1
        exact ⟨h1.2, step_ok hE hs h1.1 h2⟩
theorem AM.runU {P : Program} {G : Gl} {E : Env} {rs : List ResultVar} (hG : GOk P G E rs) (n : Nat) {c c' : Cfg} {obs : Obs} (he : Sx.runU E n c [] = (c', obs)) (h1 : allO obs) (h2 : AM G c') : AM G c := by
  have hq := hG.e
  subst hq
  exact (runU_ok hG.ok n c [] (by rw [he]; exact h1) (by rw [he]; exact h2)).2
end Go.Sx
