/- What was wrong with what was read, walked by hand: each function comes to what its plain Lean function beside it tells; no condition beside those in each theorem. -/
import Derived.Test.YtmciigdfhikdnaaDoorRd2
namespace Go.Proofs.YtmciigdfhikdnaaDoor
open Go.RowKit Go.Proofs.YtmciigdfhikdnaaDoorW.PrintWords Go.Proofs.YtmciigdfhikdnaaDoorW.PrintLast Go.Proofs.YtmciigdfhikdnaaDoorW.PrintMore Go.Proofs.YtmciigdfhikdnaaDoor.Rw
set_option linter.unusedVariables false
set_option linter.unusedSimpArgs false
/-- What is wrong with what was read, that is written so. -/
def endR (k : Nat) (xs : List Int) (c : Int) (ag : Option (List Int × Int)) (b : List Int) : Option Int :=
  if endC xs c = 0 then ag.bind fun p => if p.2 = 0 then (octet_Same.f k b p.1).bind fun s => some (if s = true then p.2 else 4) else some p.2 else some (endC xs c)
theorem endR_mono (k : Nat) (xs : List Int) (c : Int) {ag ag' : Option (List Int × Int)} (b : List Int) (h : LeO ag ag') : LeO (endR k xs c ag b) (endR (k + 1) xs c ag' b) := by
  unfold endR
  refine LeO.ite (LeO.bind h fun p => LeO.ite (LeO.bind (octet_Same.mono _ _ _) fun _ => LeO.refl _) (LeO.refl _)) (LeO.refl _)
def AgainP (W : World) (p : List Int × Int) (e : Ending) (w' : World) : Prop :=
  ∃ v, e = .returned (.tuple #[v, .int .i64 p.2]) ∧ Kd.R (Kd.int .u8) 5 w' W.heap.size (fun _ => True) v p.1 ∧ Below W.heap.size W w'
def EndP (g : Nat) (w0 w : World) (r : Int) (e : Ending) (w' : World) : Prop :=
  e = .returned (.int .i64 r) ∧ Below w0.heap.size w0 w' ∧ KeepBut w w' g none
set_option maxHeartbeats 1000000 in
theorem end_calls_44 (k g gx : Nat) (xs : List Int) (c : Int) (ag : Option (List Int × Int)) (A : Option Addr) (cap : Nat) (b : List Int) (r : Int) (w0 w : World) (hI : Rdr w0 w g xs c) (hB : Below w0.heap.size w0 w) (hl : xs.length ≤ 1000000000)
    (hC : Kd.C (Kd.int .u8) w0 A b.length b) (hcap : b.length ≤ cap) (hcl : ∀ p, ag = some p → ∀ W, KeepBut w W g none → Calls Tryd.prog 44 #[.pointer (some ⟨gx, 0, none⟩)] W (AgainP W p)) (h : endR k xs c ag b = some r) :
    Calls Tryd.prog 43 #[.pointer (some ⟨g, 0, none⟩), .func (.func 44) #[] #[.pointer (some ⟨gx, 0, none⟩)], .slice A b.length cap] w (EndP g w0 w r) := by
  have H := Lib.hid (End_calls g xs c w0 w hI hB hl)
  unfold endR at h
  by_cases hc : endC xs c = 0
  · rw [if_pos hc] at h
    rw [hc] at H
    obtain ⟨p, hp, h⟩ := Option.bind_eq_some_iff.1 h
    have CL := Lib.hid (hcl p hp)
    clear hcl hp hc hI
    obtain ⟨out, code⟩ := p
    simp only at h
    by_cases h0 : code = 0
    · subst h0
      rw [if_pos rfl] at h
      obtain ⟨s, hs, h⟩ := Option.bind_eq_some_iff.1 h
      have hs := Lib.hid hs
      cases s with
      | true =>
        simp only [if_true, Option.some.injEq] at h
        subst h
        go_enter Tryd.func43, Tryd.ntmps43
        go_wp2_with fail
        refine H.out.mono ?_
        rintro e w1 ⟨rfl, hR1, hB1, hk1, hz1⟩
        clear H hR1 hz1
        have C1 := Lib.hid (CL.out w1 hk1)
        clear CL
        go_wp2_with fail
        refine C1.out.mono ?_
        rintro e w2 ⟨v, rfl, hv, hb⟩
        obtain ⟨A2, c2, rfl, hl2, hC2⟩ := Kd.R_reads hv
        have hB2 := below_step hB1 hb
        have S := Lib.hid (octet_Same.calls k A cap b A2 c2 out true w2 (Kd.C_below hC hB2) hcap hC2 hl2 hs.out)
        have hk2 : KeepBut w w2 g none := hk1.trans (KeepBut.of_below hb _ none) (.inl rfl)
        clear hv hb hC2 hB1 hk1 C1
        go_wp2_with fail
        refine S.out.mono ?_
        rintro e w3 ⟨rfl, ⟨nd, rfl⟩⟩
        have F := Lib.hid (show EndP g w0 w 0 (.returned (.int .i64 0)) (w2.drewN nd) from ⟨rfl, pw_below_drewN hB2 nd, keep_drewN hk2 nd⟩)
        clear S hB2 hk2
        go_wp2_with fail
        go_ret
        exact F.out
      | false =>
        simp only [Bool.false_eq_true, if_false, Option.some.injEq] at h
        subst h
        go_enter Tryd.func43, Tryd.ntmps43
        go_wp2_with fail
        refine H.out.mono ?_
        rintro e w1 ⟨rfl, hR1, hB1, hk1, hz1⟩
        clear H hR1 hz1
        have C1 := Lib.hid (CL.out w1 hk1)
        clear CL
        go_wp2_with fail
        refine C1.out.mono ?_
        rintro e w2 ⟨v, rfl, hv, hb⟩
        obtain ⟨A2, c2, rfl, hl2, hC2⟩ := Kd.R_reads hv
        have hB2 := below_step hB1 hb
        have S := Lib.hid (octet_Same.calls k A cap b A2 c2 out false w2 (Kd.C_below hC hB2) hcap hC2 hl2 hs.out)
        have hk2 : KeepBut w w2 g none := hk1.trans (KeepBut.of_below hb _ none) (.inl rfl)
        clear hv hb hC2 hB1 hk1 C1
        go_wp2_with fail
        refine S.out.mono ?_
        rintro e w3 ⟨rfl, ⟨nd, rfl⟩⟩
        have F := Lib.hid (show EndP g w0 w 4 (.returned (.int .i64 4)) (w2.drewN nd) from ⟨rfl, pw_below_drewN hB2 nd, keep_drewN hk2 nd⟩)
        clear S hB2 hk2
        go_wp2_with fail
        go_ret
        exact F.out
    · rw [if_neg h0] at h
      obtain rfl := Option.some.inj h
      have t1 : (code == 0) = false := by simpa using h0
      go_enter Tryd.func43, Tryd.ntmps43
      go_wp2_with fail
      refine H.out.mono ?_
      rintro e w1 ⟨rfl, hR1, hB1, hk1, hz1⟩
      clear H hR1 hz1
      have C1 := Lib.hid (CL.out w1 hk1)
      clear CL
      go_wp2_with fail
      refine C1.out.mono ?_
      rintro e w2 ⟨v, rfl, hv, hb⟩
      obtain ⟨A2, c2, rfl, hl2, hC2⟩ := Kd.R_reads hv
      have F := Lib.hid (show EndP g w0 w code (.returned (.int .i64 code)) w2 from ⟨rfl, below_step hB1 hb, hk1.trans (KeepBut.of_below hb _ none) (.inl rfl)⟩)
      clear hv hb hC2 hB1 hk1 C1
      go_wp2_with fail
      go_ret
      exact F.out
  · rw [if_neg hc] at h
    obtain rfl := Option.some.inj h
    have t1 : (endC xs c != 0) = true := by simpa using hc
    generalize endC xs c = d at H t1
    clear hcl hI hc
    go_enter Tryd.func43, Tryd.ntmps43
    go_wp2_with fail
    refine H.out.mono ?_
    rintro e w1 ⟨rfl, hR1, hB1, hk1, hz1⟩
    have F := Lib.hid (show EndP g w0 w d (.returned (.int .i64 d)) w1 from ⟨rfl, hB1, hk1⟩)
    clear H hR1 hz1 hB1 hk1
    go_wp2_with fail
    go_ret
    exact F.out
set_option maxHeartbeats 1000000 in
theorem end_calls_50 (k g gx : Nat) (xs : List Int) (c : Int) (ag : Option (List Int × Int)) (A : Option Addr) (cap : Nat) (b : List Int) (r : Int) (w0 w : World) (hI : Rdr w0 w g xs c) (hB : Below w0.heap.size w0 w) (hl : xs.length ≤ 1000000000)
    (hC : Kd.C (Kd.int .u8) w0 A b.length b) (hcap : b.length ≤ cap) (hcl : ∀ p, ag = some p → ∀ W, KeepBut w W g none → Calls Tryd.prog 50 #[.pointer (some ⟨gx, 0, none⟩)] W (AgainP W p)) (h : endR k xs c ag b = some r) :
    Calls Tryd.prog 43 #[.pointer (some ⟨g, 0, none⟩), .func (.func 50) #[] #[.pointer (some ⟨gx, 0, none⟩)], .slice A b.length cap] w (EndP g w0 w r) := by
  have H := Lib.hid (End_calls g xs c w0 w hI hB hl)
  unfold endR at h
  by_cases hc : endC xs c = 0
  · rw [if_pos hc] at h
    rw [hc] at H
    obtain ⟨p, hp, h⟩ := Option.bind_eq_some_iff.1 h
    have CL := Lib.hid (hcl p hp)
    clear hcl hp hc hI
    obtain ⟨out, code⟩ := p
    simp only at h
    by_cases h0 : code = 0
    · subst h0
      rw [if_pos rfl] at h
      obtain ⟨s, hs, h⟩ := Option.bind_eq_some_iff.1 h
      have hs := Lib.hid hs
      cases s with
      | true =>
        simp only [if_true, Option.some.injEq] at h
        subst h
        go_enter Tryd.func43, Tryd.ntmps43
        go_wp2_with fail
        refine H.out.mono ?_
        rintro e w1 ⟨rfl, hR1, hB1, hk1, hz1⟩
        clear H hR1 hz1
        have C1 := Lib.hid (CL.out w1 hk1)
        clear CL
        go_wp2_with fail
        refine C1.out.mono ?_
        rintro e w2 ⟨v, rfl, hv, hb⟩
        obtain ⟨A2, c2, rfl, hl2, hC2⟩ := Kd.R_reads hv
        have hB2 := below_step hB1 hb
        have S := Lib.hid (octet_Same.calls k A cap b A2 c2 out true w2 (Kd.C_below hC hB2) hcap hC2 hl2 hs.out)
        have hk2 : KeepBut w w2 g none := hk1.trans (KeepBut.of_below hb _ none) (.inl rfl)
        clear hv hb hC2 hB1 hk1 C1
        go_wp2_with fail
        refine S.out.mono ?_
        rintro e w3 ⟨rfl, ⟨nd, rfl⟩⟩
        have F := Lib.hid (show EndP g w0 w 0 (.returned (.int .i64 0)) (w2.drewN nd) from ⟨rfl, pw_below_drewN hB2 nd, keep_drewN hk2 nd⟩)
        clear S hB2 hk2
        go_wp2_with fail
        go_ret
        exact F.out
      | false =>
        simp only [Bool.false_eq_true, if_false, Option.some.injEq] at h
        subst h
        go_enter Tryd.func43, Tryd.ntmps43
        go_wp2_with fail
        refine H.out.mono ?_
        rintro e w1 ⟨rfl, hR1, hB1, hk1, hz1⟩
        clear H hR1 hz1
        have C1 := Lib.hid (CL.out w1 hk1)
        clear CL
        go_wp2_with fail
        refine C1.out.mono ?_
        rintro e w2 ⟨v, rfl, hv, hb⟩
        obtain ⟨A2, c2, rfl, hl2, hC2⟩ := Kd.R_reads hv
        have hB2 := below_step hB1 hb
        have S := Lib.hid (octet_Same.calls k A cap b A2 c2 out false w2 (Kd.C_below hC hB2) hcap hC2 hl2 hs.out)
        have hk2 : KeepBut w w2 g none := hk1.trans (KeepBut.of_below hb _ none) (.inl rfl)
        clear hv hb hC2 hB1 hk1 C1
        go_wp2_with fail
        refine S.out.mono ?_
        rintro e w3 ⟨rfl, ⟨nd, rfl⟩⟩
        have F := Lib.hid (show EndP g w0 w 4 (.returned (.int .i64 4)) (w2.drewN nd) from ⟨rfl, pw_below_drewN hB2 nd, keep_drewN hk2 nd⟩)
        clear S hB2 hk2
        go_wp2_with fail
        go_ret
        exact F.out
    · rw [if_neg h0] at h
      obtain rfl := Option.some.inj h
      have t1 : (code == 0) = false := by simpa using h0
      go_enter Tryd.func43, Tryd.ntmps43
      go_wp2_with fail
      refine H.out.mono ?_
      rintro e w1 ⟨rfl, hR1, hB1, hk1, hz1⟩
      clear H hR1 hz1
      have C1 := Lib.hid (CL.out w1 hk1)
      clear CL
      go_wp2_with fail
      refine C1.out.mono ?_
      rintro e w2 ⟨v, rfl, hv, hb⟩
      obtain ⟨A2, c2, rfl, hl2, hC2⟩ := Kd.R_reads hv
      have F := Lib.hid (show EndP g w0 w code (.returned (.int .i64 code)) w2 from ⟨rfl, below_step hB1 hb, hk1.trans (KeepBut.of_below hb _ none) (.inl rfl)⟩)
      clear hv hb hC2 hB1 hk1 C1
      go_wp2_with fail
      go_ret
      exact F.out
  · rw [if_neg hc] at h
    obtain rfl := Option.some.inj h
    have t1 : (endC xs c != 0) = true := by simpa using hc
    generalize endC xs c = d at H t1
    clear hcl hI hc
    go_enter Tryd.func43, Tryd.ntmps43
    go_wp2_with fail
    refine H.out.mono ?_
    rintro e w1 ⟨rfl, hR1, hB1, hk1, hz1⟩
    have F := Lib.hid (show EndP g w0 w d (.returned (.int .i64 d)) w1 from ⟨rfl, hB1, hk1⟩)
    clear H hR1 hz1 hB1 hk1
    go_wp2_with fail
    go_ret
    exact F.out
set_option maxHeartbeats 1000000 in
theorem end_calls_53 (k g gx : Nat) (xs : List Int) (c : Int) (ag : Option (List Int × Int)) (A : Option Addr) (cap : Nat) (b : List Int) (r : Int) (w0 w : World) (hI : Rdr w0 w g xs c) (hB : Below w0.heap.size w0 w) (hl : xs.length ≤ 1000000000)
    (hC : Kd.C (Kd.int .u8) w0 A b.length b) (hcap : b.length ≤ cap) (hcl : ∀ p, ag = some p → ∀ W, KeepBut w W g none → Calls Tryd.prog 53 #[.pointer (some ⟨gx, 0, none⟩)] W (AgainP W p)) (h : endR k xs c ag b = some r) :
    Calls Tryd.prog 43 #[.pointer (some ⟨g, 0, none⟩), .func (.func 53) #[] #[.pointer (some ⟨gx, 0, none⟩)], .slice A b.length cap] w (EndP g w0 w r) := by
  have H := Lib.hid (End_calls g xs c w0 w hI hB hl)
  unfold endR at h
  by_cases hc : endC xs c = 0
  · rw [if_pos hc] at h
    rw [hc] at H
    obtain ⟨p, hp, h⟩ := Option.bind_eq_some_iff.1 h
    have CL := Lib.hid (hcl p hp)
    clear hcl hp hc hI
    obtain ⟨out, code⟩ := p
    simp only at h
    by_cases h0 : code = 0
    · subst h0
      rw [if_pos rfl] at h
      obtain ⟨s, hs, h⟩ := Option.bind_eq_some_iff.1 h
      have hs := Lib.hid hs
      cases s with
      | true =>
        simp only [if_true, Option.some.injEq] at h
        subst h
        go_enter Tryd.func43, Tryd.ntmps43
        go_wp2_with fail
        refine H.out.mono ?_
        rintro e w1 ⟨rfl, hR1, hB1, hk1, hz1⟩
        clear H hR1 hz1
        have C1 := Lib.hid (CL.out w1 hk1)
        clear CL
        go_wp2_with fail
        refine C1.out.mono ?_
        rintro e w2 ⟨v, rfl, hv, hb⟩
        obtain ⟨A2, c2, rfl, hl2, hC2⟩ := Kd.R_reads hv
        have hB2 := below_step hB1 hb
        have S := Lib.hid (octet_Same.calls k A cap b A2 c2 out true w2 (Kd.C_below hC hB2) hcap hC2 hl2 hs.out)
        have hk2 : KeepBut w w2 g none := hk1.trans (KeepBut.of_below hb _ none) (.inl rfl)
        clear hv hb hC2 hB1 hk1 C1
        go_wp2_with fail
        refine S.out.mono ?_
        rintro e w3 ⟨rfl, ⟨nd, rfl⟩⟩
        have F := Lib.hid (show EndP g w0 w 0 (.returned (.int .i64 0)) (w2.drewN nd) from ⟨rfl, pw_below_drewN hB2 nd, keep_drewN hk2 nd⟩)
        clear S hB2 hk2
        go_wp2_with fail
        go_ret
        exact F.out
      | false =>
        simp only [Bool.false_eq_true, if_false, Option.some.injEq] at h
        subst h
        go_enter Tryd.func43, Tryd.ntmps43
        go_wp2_with fail
        refine H.out.mono ?_
        rintro e w1 ⟨rfl, hR1, hB1, hk1, hz1⟩
        clear H hR1 hz1
        have C1 := Lib.hid (CL.out w1 hk1)
        clear CL
        go_wp2_with fail
        refine C1.out.mono ?_
        rintro e w2 ⟨v, rfl, hv, hb⟩
        obtain ⟨A2, c2, rfl, hl2, hC2⟩ := Kd.R_reads hv
        have hB2 := below_step hB1 hb
        have S := Lib.hid (octet_Same.calls k A cap b A2 c2 out false w2 (Kd.C_below hC hB2) hcap hC2 hl2 hs.out)
        have hk2 : KeepBut w w2 g none := hk1.trans (KeepBut.of_below hb _ none) (.inl rfl)
        clear hv hb hC2 hB1 hk1 C1
        go_wp2_with fail
        refine S.out.mono ?_
        rintro e w3 ⟨rfl, ⟨nd, rfl⟩⟩
        have F := Lib.hid (show EndP g w0 w 4 (.returned (.int .i64 4)) (w2.drewN nd) from ⟨rfl, pw_below_drewN hB2 nd, keep_drewN hk2 nd⟩)
        clear S hB2 hk2
        go_wp2_with fail
        go_ret
        exact F.out
    · rw [if_neg h0] at h
      obtain rfl := Option.some.inj h
      have t1 : (code == 0) = false := by simpa using h0
      go_enter Tryd.func43, Tryd.ntmps43
      go_wp2_with fail
      refine H.out.mono ?_
      rintro e w1 ⟨rfl, hR1, hB1, hk1, hz1⟩
      clear H hR1 hz1
      have C1 := Lib.hid (CL.out w1 hk1)
      clear CL
      go_wp2_with fail
      refine C1.out.mono ?_
      rintro e w2 ⟨v, rfl, hv, hb⟩
      obtain ⟨A2, c2, rfl, hl2, hC2⟩ := Kd.R_reads hv
      have F := Lib.hid (show EndP g w0 w code (.returned (.int .i64 code)) w2 from ⟨rfl, below_step hB1 hb, hk1.trans (KeepBut.of_below hb _ none) (.inl rfl)⟩)
      clear hv hb hC2 hB1 hk1 C1
      go_wp2_with fail
      go_ret
      exact F.out
  · rw [if_neg hc] at h
    obtain rfl := Option.some.inj h
    have t1 : (endC xs c != 0) = true := by simpa using hc
    generalize endC xs c = d at H t1
    clear hcl hI hc
    go_enter Tryd.func43, Tryd.ntmps43
    go_wp2_with fail
    refine H.out.mono ?_
    rintro e w1 ⟨rfl, hR1, hB1, hk1, hz1⟩
    have F := Lib.hid (show EndP g w0 w d (.returned (.int .i64 d)) w1 from ⟨rfl, hB1, hk1⟩)
    clear H hR1 hz1 hB1 hk1
    go_wp2_with fail
    go_ret
    exact F.out
set_option maxHeartbeats 1000000 in
theorem end_calls_54 (k g gx : Nat) (xs : List Int) (c : Int) (ag : Option (List Int × Int)) (A : Option Addr) (cap : Nat) (b : List Int) (r : Int) (w0 w : World) (hI : Rdr w0 w g xs c) (hB : Below w0.heap.size w0 w) (hl : xs.length ≤ 1000000000)
    (hC : Kd.C (Kd.int .u8) w0 A b.length b) (hcap : b.length ≤ cap) (hcl : ∀ p, ag = some p → ∀ W, KeepBut w W g none → Calls Tryd.prog 54 #[.pointer (some ⟨gx, 0, none⟩)] W (AgainP W p)) (h : endR k xs c ag b = some r) :
    Calls Tryd.prog 43 #[.pointer (some ⟨g, 0, none⟩), .func (.func 54) #[] #[.pointer (some ⟨gx, 0, none⟩)], .slice A b.length cap] w (EndP g w0 w r) := by
  have H := Lib.hid (End_calls g xs c w0 w hI hB hl)
  unfold endR at h
  by_cases hc : endC xs c = 0
  · rw [if_pos hc] at h
    rw [hc] at H
    obtain ⟨p, hp, h⟩ := Option.bind_eq_some_iff.1 h
    have CL := Lib.hid (hcl p hp)
    clear hcl hp hc hI
    obtain ⟨out, code⟩ := p
    simp only at h
    by_cases h0 : code = 0
    · subst h0
      rw [if_pos rfl] at h
      obtain ⟨s, hs, h⟩ := Option.bind_eq_some_iff.1 h
      have hs := Lib.hid hs
      cases s with
      | true =>
        simp only [if_true, Option.some.injEq] at h
        subst h
        go_enter Tryd.func43, Tryd.ntmps43
        go_wp2_with fail
        refine H.out.mono ?_
        rintro e w1 ⟨rfl, hR1, hB1, hk1, hz1⟩
        clear H hR1 hz1
        have C1 := Lib.hid (CL.out w1 hk1)
        clear CL
        go_wp2_with fail
        refine C1.out.mono ?_
        rintro e w2 ⟨v, rfl, hv, hb⟩
        obtain ⟨A2, c2, rfl, hl2, hC2⟩ := Kd.R_reads hv
        have hB2 := below_step hB1 hb
        have S := Lib.hid (octet_Same.calls k A cap b A2 c2 out true w2 (Kd.C_below hC hB2) hcap hC2 hl2 hs.out)
        have hk2 : KeepBut w w2 g none := hk1.trans (KeepBut.of_below hb _ none) (.inl rfl)
        clear hv hb hC2 hB1 hk1 C1
        go_wp2_with fail
        refine S.out.mono ?_
        rintro e w3 ⟨rfl, ⟨nd, rfl⟩⟩
        have F := Lib.hid (show EndP g w0 w 0 (.returned (.int .i64 0)) (w2.drewN nd) from ⟨rfl, pw_below_drewN hB2 nd, keep_drewN hk2 nd⟩)
        clear S hB2 hk2
        go_wp2_with fail
        go_ret
        exact F.out
      | false =>
        simp only [Bool.false_eq_true, if_false, Option.some.injEq] at h
        subst h
        go_enter Tryd.func43, Tryd.ntmps43
        go_wp2_with fail
        refine H.out.mono ?_
        rintro e w1 ⟨rfl, hR1, hB1, hk1, hz1⟩
        clear H hR1 hz1
        have C1 := Lib.hid (CL.out w1 hk1)
        clear CL
        go_wp2_with fail
        refine C1.out.mono ?_
        rintro e w2 ⟨v, rfl, hv, hb⟩
        obtain ⟨A2, c2, rfl, hl2, hC2⟩ := Kd.R_reads hv
        have hB2 := below_step hB1 hb
        have S := Lib.hid (octet_Same.calls k A cap b A2 c2 out false w2 (Kd.C_below hC hB2) hcap hC2 hl2 hs.out)
        have hk2 : KeepBut w w2 g none := hk1.trans (KeepBut.of_below hb _ none) (.inl rfl)
        clear hv hb hC2 hB1 hk1 C1
        go_wp2_with fail
        refine S.out.mono ?_
        rintro e w3 ⟨rfl, ⟨nd, rfl⟩⟩
        have F := Lib.hid (show EndP g w0 w 4 (.returned (.int .i64 4)) (w2.drewN nd) from ⟨rfl, pw_below_drewN hB2 nd, keep_drewN hk2 nd⟩)
        clear S hB2 hk2
        go_wp2_with fail
        go_ret
        exact F.out
    · rw [if_neg h0] at h
      obtain rfl := Option.some.inj h
      have t1 : (code == 0) = false := by simpa using h0
      go_enter Tryd.func43, Tryd.ntmps43
      go_wp2_with fail
      refine H.out.mono ?_
      rintro e w1 ⟨rfl, hR1, hB1, hk1, hz1⟩
      clear H hR1 hz1
      have C1 := Lib.hid (CL.out w1 hk1)
      clear CL
      go_wp2_with fail
      refine C1.out.mono ?_
      rintro e w2 ⟨v, rfl, hv, hb⟩
      obtain ⟨A2, c2, rfl, hl2, hC2⟩ := Kd.R_reads hv
      have F := Lib.hid (show EndP g w0 w code (.returned (.int .i64 code)) w2 from ⟨rfl, below_step hB1 hb, hk1.trans (KeepBut.of_below hb _ none) (.inl rfl)⟩)
      clear hv hb hC2 hB1 hk1 C1
      go_wp2_with fail
      go_ret
      exact F.out
  · rw [if_neg hc] at h
    obtain rfl := Option.some.inj h
    have t1 : (endC xs c != 0) = true := by simpa using hc
    generalize endC xs c = d at H t1
    clear hcl hI hc
    go_enter Tryd.func43, Tryd.ntmps43
    go_wp2_with fail
    refine H.out.mono ?_
    rintro e w1 ⟨rfl, hR1, hB1, hk1, hz1⟩
    have F := Lib.hid (show EndP g w0 w d (.returned (.int .i64 d)) w1 from ⟨rfl, hB1, hk1⟩)
    clear H hR1 hz1 hB1 hk1
    go_wp2_with fail
    go_ret
    exact F.out
end Go.Proofs.YtmciigdfhikdnaaDoor
