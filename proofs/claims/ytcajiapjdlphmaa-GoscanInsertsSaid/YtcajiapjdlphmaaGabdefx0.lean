import Derived.Test.YtcajiapjdlphmaaGPre
namespace Go.Proofs.Ytcajiapjdlphmaa.H
open Go.RowKit Go.Proofs.YtcajiapjdlphmaaW.PrintWords Go.Proofs.YtcajiapjdlphmaaW.PrintLast Go.Proofs.YtcajiapjdlphmaaW.PrintMore
attribute [local go_sem] max2_int min2_int max_two min_two max_three min_three max_four min_four
set_option linter.unusedVariables false
set_option linter.unusedSimpArgs false
def quoinref26_operators.l : List ByteArray := [⟨#[97, 100, 100]⟩, ⟨#[43]⟩, ⟨#[115, 117, 98]⟩, ⟨#[45]⟩, ⟨#[109, 117, 108]⟩, ⟨#[42]⟩, ⟨#[113, 117, 111]⟩, ⟨#[47]⟩, ⟨#[114, 101, 109]⟩, ⟨#[37]⟩, ⟨#[97, 110, 100]⟩, ⟨#[38]⟩, ⟨#[111, 114]⟩, ⟨#[124]⟩, ⟨#[120, 111, 114]⟩, ⟨#[94]⟩, ⟨#[115, 104, 108]⟩, ⟨#[60, 60]⟩, ⟨#[115, 104, 114]⟩, ⟨#[62, 62]⟩, ⟨#[97, 110, 100, 110, 111, 116]⟩, ⟨#[38, 94]⟩, ⟨#[97, 100, 100, 115, 101, 116]⟩, ⟨#[43, 61]⟩, ⟨#[115, 117, 98, 115, 101, 116]⟩, ⟨#[45, 61]⟩, ⟨#[109, 117, 108, 115, 101, 116]⟩, ⟨#[42, 61]⟩, ⟨#[113, 117, 111, 115, 101, 116]⟩, ⟨#[47, 61]⟩, ⟨#[114, 101, 109, 115, 101, 116]⟩, ⟨#[37, 61]⟩, ⟨#[97, 110, 100, 115, 101, 116]⟩, ⟨#[38, 61]⟩, ⟨#[111, 114, 115, 101, 116]⟩, ⟨#[124, 61]⟩, ⟨#[120, 111, 114, 115, 101, 116]⟩, ⟨#[94, 61]⟩, ⟨#[115, 104, 108, 115, 101, 116]⟩, ⟨#[60, 60, 61]⟩, ⟨#[115, 104, 114, 115, 101, 116]⟩, ⟨#[62, 62, 61]⟩, ⟨#[97, 110, 100, 110, 111, 116, 115, 101, 116]⟩, ⟨#[38, 94, 61]⟩, ⟨#[108, 97, 110, 100]⟩, ⟨#[38, 38]⟩, ⟨#[108, 111, 114]⟩, ⟨#[124, 124]⟩, ⟨#[97, 114, 114, 111, 119]⟩, ⟨#[60, 45]⟩, ⟨#[105, 110, 99]⟩, ⟨#[43, 43]⟩, ⟨#[100, 101, 99]⟩, ⟨#[45, 45]⟩, ⟨#[101, 113, 108]⟩, ⟨#[61, 61]⟩, ⟨#[108, 115, 115]⟩, ⟨#[60]⟩, ⟨#[103, 116, 114]⟩, ⟨#[62]⟩, ⟨#[97, 115, 115, 105, 103, 110]⟩, ⟨#[61]⟩, ⟨#[110, 111, 116]⟩, ⟨#[33]⟩, ⟨#[116, 105, 108, 100, 101]⟩, ⟨#[126]⟩, ⟨#[110, 101, 113]⟩, ⟨#[33, 61]⟩, ⟨#[108, 101, 113]⟩, ⟨#[60, 61]⟩, ⟨#[103, 101, 113]⟩, ⟨#[62, 61]⟩, ⟨#[100, 101, 102, 105, 110, 101]⟩, ⟨#[58, 61]⟩, ⟨#[101, 108, 108, 105, 112, 115, 105, 115]⟩, ⟨#[46, 46, 46]⟩, ⟨#[108, 112, 97, 114, 101, 110]⟩, ⟨#[40]⟩, ⟨#[108, 98, 114, 97, 99, 107]⟩, ⟨#[91]⟩, ⟨#[108, 98, 114, 97, 99, 101]⟩, ⟨#[123]⟩, ⟨#[99, 111, 109, 109, 97]⟩, ⟨#[44]⟩, ⟨#[112, 101, 114, 105, 111, 100]⟩, ⟨#[46]⟩, ⟨#[114, 112, 97, 114, 101, 110]⟩, ⟨#[41]⟩, ⟨#[114, 98, 114, 97, 99, 107]⟩, ⟨#[93]⟩, ⟨#[114, 98, 114, 97, 99, 101]⟩, ⟨#[125]⟩, ⟨#[115, 101, 109, 105]⟩, ⟨#[59]⟩, ⟨#[99, 111, 108, 111, 110]⟩, ⟨#[58]⟩]
def quoinref26_operators.f : Option (List ByteArray) := some quoinref26_operators.l
set_option maxHeartbeats 8000000 in
set_option maxRecDepth 100000 in
theorem quoinref26_operators.calls (r : List ByteArray) (w : World) (h : quoinref26_operators.f = some r) :
  Calls Try.prog 40 #[] w fun e w' => ∃ v0_ : Value, e = .returned (v0_) ∧ Kd.R Kd.string 9 w' w.heap.size (fun _ => True) v0_ r ∧ Below w.heap.size w w' := by
 obtain rfl := Option.some.inj h
 clear h
 go_enter Try.func40, Try.ntmps40
 go_wp2_with (first | ((with_reducible refine gate_dst (N := 1) rfl ?_); refine Kd.R_lit Kd.string _ 9 (by rfl) (N := 1) (by rfl) (xs := quoinref26_operators.l) (inner := quoinref26_operators.l.map Value.string) (ok := fun _ => True) (okp := fun _ => True) (by kernel_rfl) (reps_strings _ _ _ _) (fun _ hk => hk) trivial (Below.refl _ _) (Nat.le_refl _) (by decide) ?_; intro v1 w1 hv1 hb1 _ _; have hv1 := Aside0.mk hv1; have hb1 := Aside0.mk hb1))
 go_ret
 exact ⟨_, rfl, hv1.out, hb1.out⟩
def quoinref26_keywords.l : List ByteArray := [⟨#[98, 114, 101, 97, 107]⟩, ⟨#[99, 97, 115, 101]⟩, ⟨#[99, 104, 97, 110]⟩, ⟨#[99, 111, 110, 115, 116]⟩, ⟨#[99, 111, 110, 116, 105, 110, 117, 101]⟩, ⟨#[100, 101, 102, 97, 117, 108, 116]⟩, ⟨#[100, 101, 102, 101, 114]⟩, ⟨#[101, 108, 115, 101]⟩, ⟨#[102, 97, 108, 108, 116, 104, 114, 111, 117, 103, 104]⟩, ⟨#[102, 111, 114]⟩, ⟨#[102, 117, 110, 99]⟩, ⟨#[103, 111]⟩, ⟨#[103, 111, 116, 111]⟩, ⟨#[105, 102]⟩, ⟨#[105, 109, 112, 111, 114, 116]⟩, ⟨#[105, 110, 116, 101, 114, 102, 97, 99, 101]⟩, ⟨#[109, 97, 112]⟩, ⟨#[112, 97, 99, 107, 97, 103, 101]⟩, ⟨#[114, 97, 110, 103, 101]⟩, ⟨#[114, 101, 116, 117, 114, 110]⟩, ⟨#[115, 101, 108, 101, 99, 116]⟩, ⟨#[115, 116, 114, 117, 99, 116]⟩, ⟨#[115, 119, 105, 116, 99, 104]⟩, ⟨#[116, 121, 112, 101]⟩, ⟨#[118, 97, 114]⟩]
def quoinref26_keywords.f : Option (List ByteArray) := some quoinref26_keywords.l
set_option maxHeartbeats 8000000 in
set_option maxRecDepth 100000 in
theorem quoinref26_keywords.calls (r : List ByteArray) (w : World) (h : quoinref26_keywords.f = some r) :
  Calls Try.prog 41 #[] w fun e w' => ∃ v0_ : Value, e = .returned (v0_) ∧ Kd.R Kd.string 9 w' w.heap.size (fun _ => True) v0_ r ∧ Below w.heap.size w w' := by
 obtain rfl := Option.some.inj h
 clear h
 go_enter Try.func41, Try.ntmps41
 go_wp2_with (first | ((with_reducible refine gate_dst (N := 1) rfl ?_); refine Kd.R_lit Kd.string _ 9 (by rfl) (N := 1) (by rfl) (xs := quoinref26_keywords.l) (inner := quoinref26_keywords.l.map Value.string) (ok := fun _ => True) (okp := fun _ => True) (by kernel_rfl) (reps_strings _ _ _ _) (fun _ hk => hk) trivial (Below.refl _ _) (Nat.le_refl _) (by decide) ?_; intro v1 w1 hv1 hb1 _ _; have hv1 := Aside0.mk hv1; have hb1 := Aside0.mk hb1))
 go_ret
 exact ⟨_, rfl, hv1.out, hb1.out⟩
end Go.Proofs.Ytcajiapjdlphmaa.H
