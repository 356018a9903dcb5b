/- keys.words: a text up to its end: its contract. -/
import Derived.Test.YtdodfelbejkbiaaDoorKx0
import Derived.Test.YtdodfelbejkbiaaDoorBld
import Derived.WalkLawsBesides
import Derived.WalkSpells
import Derived.Outline
namespace Go.Proofs.YtdodfelbejkbiaaDoor.K
open Go Go.RowKit Go.Shelf Go.Proofs.YtdodfelbejkbiaaDoorW.PrintWords Go.Proofs.YtdodfelbejkbiaaDoorW.PrintLast Go.Proofs.YtdodfelbejkbiaaDoorW.PrintMore

/-- the writers' contracts, laid -/
theorem write_string (B b : Nat) (bs : List Value) (s : ByteArray) (w : World) (h : Lib.IsBuilder 72 5 B b bs w) (hlen : bs.length + s.size ≤ 140737488355328) (hBw : B ≤ w.heap.size) :
    Calls Tryd.prog 37 #[.pointer (some ⟨b, 0, none⟩), .string s] w fun e w' => e = .returned (.tuple #[.int .i64 s.size, .nilIface]) ∧ (Lib.BuilderAt 72 5 B b (.pointer (some ⟨b, 0, none⟩)) (bs ++ Lib.strCells s) w' ∧ Below B w w') :=
  Any.Builder_WriteString Tryd.lays166 Tryd.Builder_Extra_166 B b bs s w h hlen hBw
theorem write_byte (B b : Nat) (bs : List Value) (c : Int) (w : World) (h : Lib.IsBuilder 72 5 B b bs w) (hlen : bs.length + 1 ≤ 140737488355328) (hBw : B ≤ w.heap.size) :
    Calls Tryd.prog 39 #[.pointer (some ⟨b, 0, none⟩), .int .u8 c] w fun e w' => e = .returned .nilIface ∧ (Lib.BuilderAt 72 5 B b (.pointer (some ⟨b, 0, none⟩)) (bs ++ [.int .u8 c]) w' ∧ Below B w w') :=
  Any.Builder_WriteByte Tryd.lays167 Tryd.Builder_Extra_167 B b bs c w h hlen hBw
/-- a text up to its end: the text, what is left, the error -/
def wordsGo : Nat → List UInt8 → List UInt8 → List UInt8 × List UInt8 × Int
  | 0, _, _ => ([], [], 8)
  | f + 1, s, l =>
    if Lib.indexByte s 0 < 0 ∨ Lib.indexByte s 0 + 1 = s.length then ([], [], 8)
    else if s.getD ((Lib.indexByte s 0).toNat + 1) 0 = 1 then (l ++ s.take (Lib.indexByte s 0).toNat, s.drop ((Lib.indexByte s 0).toNat + 2), 0)
    else if s.getD ((Lib.indexByte s 0).toNat + 1) 0 = 255 then wordsGo f (s.drop ((Lib.indexByte s 0).toNat + 2)) (l ++ s.take (Lib.indexByte s 0).toNat ++ [0])
    else ([], [], 1)
theorem index_range (l : List UInt8) (c : UInt8) : Lib.indexByte l c = -1 ∨ ∃ k : Nat, Lib.indexByte l c = k ∧ k < l.length := by
  induction l with
  | nil => exact .inl rfl
  | cons b l ih =>
    unfold Lib.indexByte
    split
    · exact .inr ⟨0, rfl, by simp⟩
    · rcases ih with h | ⟨k, h, hk⟩
      · rw [h]; exact .inl rfl
      · rw [h, if_neg (by simp)]
        exact .inr ⟨k + 1, rfl, by simp; omega⟩
theorem size_list (s : ByteArray) : s.data.toList.length = s.size := by rw [Array.length_toList]; rfl
def WordsPost (r : List UInt8 × List UInt8 × Int) (w : World) (e : Ending) (w' : World) : Prop :=
  e = .returned (.tuple #[.agg #[.bool false, .int .i64 0, .string ⟨r.1.toArray⟩], .string ⟨r.2.1.toArray⟩, .int .i64 r.2.2]) ∧ Below w.heap.size w w'
def strSize : Value → Nat
  | .string t => t.size
  | _ => 0
theorem extract_to (s : ByteArray) (k : Nat) : (s.extract 0 k).data.toList = s.data.toList.take k := by
  obtain ⟨⟨l⟩⟩ := s
  rw [ByteArray.extract_mk]
  simp
theorem extract_from (s : ByteArray) (k : Nat) : (s.extract k s.size).data.toList = s.data.toList.drop k := by
  obtain ⟨⟨l⟩⟩ := s
  rw [ByteArray.extract_mk]
  simp [ByteArray.size]
  exact List.take_of_length_le (by simp)
theorem byte_at (s : ByteArray) (m : Nat) (h : m < s.size) : s.data.toList.getD m 0 = s[m] := by
  obtain ⟨⟨l⟩⟩ := s
  have hl : m < l.length := h
  simp [List.getD, hl]
  rfl
/-- between two rounds -/
structure WordsI (w w0 : World) (s : ByteArray) (t : ByteArray) (l : List UInt8) (f : Nat) (W : World) : Prop where
  b : Lib.IsBuilder 72 5 (w.heap.size + 1) (w.heap.size + 1) (Lib.byteCells l) W
  n : l.length + t.size ≤ s.size
  fl : t.size < f
  e : wordsGo (s.size + 1) s.data.toList [] = wordsGo f t.data.toList l
  d : Below (w.heap.size + 1) w0 W
theorem wordsGo_end {f : Nat} {s l : List UInt8} (h : Lib.indexByte s 0 < 0 ∨ Lib.indexByte s 0 + 1 = s.length) : wordsGo f s l = ([], [], 8) := by
  cases f with
  | zero => rfl
  | succ f => rw [wordsGo, if_pos h]
theorem below_from {w w0 W : World} (h0 : Below w.heap.size w w0) (h : Below (w.heap.size + 1) w0 W) : Below w.heap.size w W :=
  ⟨h.os.trans h0.os, h.tape.trans h0.tape, h.output.trans h0.output, Nat.le_trans h0.size h.size, fun i hi => (h.block i (by omega)).trans (h0.block i hi)⟩
set_option maxHeartbeats 400000 in
set_option maxRecDepth 100000 in
theorem words_calls (s : ByteArray) (w : World) (hs : s.size ≤ 140737488351232) : Calls Tryd.prog 31 #[.string s] w (WordsPost (wordsGo (s.size + 1) s.data.toList []) w) := by
  go_enter Tryd.func31, Tryd.ntmps31
  go_wp2_with fail
  have HP := Aside0.mk (blk_alloc (blk_new w (.cells #[.bool false, .int .i64 0, .string ⟨#[]⟩] 44)) (.cells #[.pointer none, .slice none 0 0] 72))
  have hbn := blk_new (w.alloc (.cells #[.bool false, .int .i64 0, .string ⟨#[]⟩] 44)) (.cells #[.pointer none, .slice none 0 0] 72)
  rw [World.size_alloc] at hbn
  have HI := Aside0.mk (show WordsI w ((w.alloc (.cells #[.bool false, .int .i64 0, .string ⟨#[]⟩] 44)).alloc (.cells #[.pointer none, .slice none 0 0] 72)) s s [] (s.size + 1) _ from
    ⟨.inl ⟨Nat.le_refl _, .slice none 0 0, hbn, World.ownsRow_nil _ _ _ _, by simp [Value.ownBlock]⟩, by simp, by omega, rfl, Below.refl _ _⟩)
  have B0 := Aside0.mk (below_alloc (below_alloc (Below.refl w.heap.size w) (.cells #[.bool false, .int .i64 0, .string ⟨#[]⟩] 44)) (.cells #[.pointer none, .slice none 0 0] 72))
  clear hbn
  generalize (w.alloc (.cells #[.bool false, .int .i64 0, .string ⟨#[]⟩] 44)).alloc (.cells #[.pointer none, .slice none 0 0] 72) = w0 at HP HI B0 ⊢
  go_loopw [0] (fun v wr => ∃ (t : ByteArray) (l : List UInt8) (f : Nat), v = .string t ∧ Aside0 (WordsI w w0 s t l f wr)) (fun v _ => strSize v)
  case atStart => exact ⟨s, [], s.size + 1, rfl, HI⟩
  case round =>
    obtain ⟨t, l, f, rfl, hI⟩ := hrel
    have hts : t.size ≤ 140737488351232 := by have := hI.out.n; omega
    go_wp2_with fail
    refine (Tryd.strings_IndexByte t 0 _).mono ?_
    rintro e w' ⟨rfl, rfl⟩
    rw [show ((0 : Int).toNat.toUInt8) = (0 : UInt8) from rfl]
    have HP1 := Aside0.mk ((hI.out.d.block w.heap.size (by omega)).trans HP.out)
    have hc0 : w'.cell? ⟨w.heap.size, 0, none⟩ = some (.bool false) := (blk_cell HP1.out 0).trans rfl
    have hc1 : w'.cell? ⟨w.heap.size, 1, none⟩ = some (.int .i64 0) := (blk_cell HP1.out 1).trans rfl
    have hc2 : w'.cell? ⟨w.heap.size, 2, none⟩ = some (.string ⟨#[]⟩) := (blk_cell HP1.out 2).trans rfl
    have hf0 := blk_frozen HP1.out 0
    have hf1 := blk_frozen HP1.out 1
    have hf2 := blk_frozen HP1.out 2
    rcases index_range t.data.toList 0 with hk | ⟨k, hk, hkl⟩
    · have HE := Aside0.mk (hI.out.e.trans (wordsGo_end (.inl (by rw [hk]; decide))))
      rw [hk]
      clear hk
      go_wp2_with fail
      refine bodyPost_ret (v := .tuple #[.agg #[.bool false, .int .i64 0, .string ⟨#[]⟩], .string ⟨#[]⟩, .int .i64 8]) ?ra1 rfl ?pa1
      case ra1 => simp [results, Tryd.results31, go_sem, hc0, hc1, hc2]
      case pa1 => exact ⟨by rw [HE.out], by repeat (first | exact below_from B0.out hI.out.d | refine below_set ?_ (Nat.le_refl _))⟩
    · rw [size_list] at hkl
      by_cases hlast : k + 1 = t.size
      · have HE := Aside0.mk (hI.out.e.trans (wordsGo_end (.inr (by rw [hk, size_list]; omega))))
        rw [hk]
        clear hk
        have hl2 : (((k : Int) + 1) == (t.size : Int)) = true := by simp; omega
        go_wp2_with fail
        refine bodyPost_ret (v := .tuple #[.agg #[.bool false, .int .i64 0, .string ⟨#[]⟩], .string ⟨#[]⟩, .int .i64 8]) ?ra2 rfl ?pa2
        case ra2 => simp [results, Tryd.results31, go_sem, hc0, hc1, hc2]
        case pa2 => exact ⟨by rw [HE.out], by repeat (first | exact below_from B0.out hI.out.d | refine below_set ?_ (Nat.le_refl _))⟩
      · have hl2 : (((k : Int) + 1) == (t.size : Int)) = false := by simp; omega
        have hkn : k + 1 < t.size := by omega
        have HK := Aside0.mk hk
        rw [hk]
        clear hk hlast
        have hsz : (w.heap.size + 1) ≤ w'.heap.size := Nat.le_trans (blk_lt HP.out) hI.out.d.size
        go_wp2_with fail
        refine (write_string (w.heap.size + 1) (w.heap.size + 1) _ (t.extract 0 k) _ hI.out.b (by
          have h1 := hI.out.n
          have h2 : (t.extract 0 k).size ≤ t.size := by rw [ByteArray.size_extract]; omega
          rw [Lib.byteCells_length]; omega) hsz).mono ?_
        rintro e w2 ⟨rfl, hb, hbel⟩
        have D2 := Aside0.mk ((hI.out.d).trans hbel)
        have HP2 := Aside0.mk ((hbel.block w.heap.size (by omega)).trans HP1.out)
        have hsz2 : (w.heap.size + 1) ≤ w2.heap.size := blk_lt HP2.out
        have Hb := Aside0.mk (show Lib.IsBuilder 72 5 (w.heap.size + 1) (w.heap.size + 1) (Lib.byteCells (l ++ t.data.toList.take k)) w2 from .inr (by
          have e : Lib.byteCells (l ++ t.data.toList.take k) = Lib.byteCells l ++ Lib.strCells (t.extract 0 k) := by rw [Lib.strCells_eq, extract_to]; simp [Lib.byteCells]
          rw [e]; exact hb))
        clear hb hbel hc0 hc1 hc2 hf0 hf1 hf2
        have hc0 : w2.cell? ⟨w.heap.size, 0, none⟩ = some (.bool false) := (blk_cell HP2.out 0).trans rfl
        have hc1 : w2.cell? ⟨w.heap.size, 1, none⟩ = some (.int .i64 0) := (blk_cell HP2.out 1).trans rfl
        have hc2 : w2.cell? ⟨w.heap.size, 2, none⟩ = some (.string ⟨#[]⟩) := (blk_cell HP2.out 2).trans rfl
        have hf0 := blk_frozen HP2.out 0
        have hf1 := blk_frozen HP2.out 1
        have hf2 := blk_frozen HP2.out 2
        have HR := Aside0.mk (show t.extract (k + 2) t.size = ⟨(t.data.toList.drop (k + 2)).toArray⟩ from by rw [← extract_from])
        by_cases h1 : t[k + 1] = 1
        · have hv1 : (((t[k + 1]).toNat : Int) == 1) = true := by rw [h1]; rfl
          have HE := Aside0.mk (show wordsGo (s.size + 1) s.data.toList [] = (l ++ t.data.toList.take k, t.data.toList.drop (k + 2), 0) by
            rw [hI.out.e]
            cases f with
            | zero => exact absurd hI.out.fl (by omega)
            | succ f =>
              rw [wordsGo, HK.out, if_neg (by rw [size_list]; omega)]
              simp only [Int.toNat_natCast]
              rw [byte_at t (k + 1) hkn, if_pos h1])
          clear h1
          go_wp2_with fail
          refine (Tryd.Builder_String_any (w.heap.size + 1) (w.heap.size + 1) (l ++ t.data.toList.take k) _ Hb.out hsz2).mono ?_
          rintro e w3 ⟨rfl, hbel⟩
          have D3 := Aside0.mk (D2.out.trans hbel)
          have HP3 := Aside0.mk ((hbel.block w.heap.size (by omega)).trans HP2.out)
          clear hbel hc0 hc1 hc2 hf0 hf1 hf2
          have hc0 : w3.cell? ⟨w.heap.size, 0, none⟩ = some (.bool false) := (blk_cell HP3.out 0).trans rfl
          have hc1 : w3.cell? ⟨w.heap.size, 1, none⟩ = some (.int .i64 0) := (blk_cell HP3.out 1).trans rfl
          have hc2 : w3.cell? ⟨w.heap.size, 2, none⟩ = some (.string ⟨#[]⟩) := (blk_cell HP3.out 2).trans rfl
          have hf0 := blk_frozen HP3.out 0
          have hf1 := blk_frozen HP3.out 1
          have hf2 := blk_frozen HP3.out 2
          obtain ⟨X, hX⟩ : ∃ X : ByteArray, X = ⟨(l ++ t.data.toList.take k).toArray⟩ := ⟨_, rfl⟩
          rw [← hX]
          have HX := Aside0.mk hX
          clear hX
          go_wp2_with fail
          refine bodyPost_ret (v := .tuple #[.agg #[.bool false, .int .i64 0, .string X], .string (t.extract (k + 2) t.size), .int .i64 0]) ?ra3 rfl ?pa3
          case ra3 => simp [results, Tryd.results31, go_sem, hc0, hc1, hc2]
          case pa3 => exact ⟨by rw [HE.out, HX.out, HR.out], by repeat (first | exact below_from B0.out D3.out | refine below_set ?_ (Nat.le_refl _))⟩
        · have hv1 : (((t[k + 1]).toNat : Int) == 1) = false := by
            have : (t[k + 1]).toNat ≠ 1 := fun e => h1 (UInt8.toNat_inj.1 e)
            simp; omega
          by_cases h2 : t[k + 1] = 255
          · have hv2 : (((t[k + 1]).toNat : Int) == 255) = true := by rw [h2]; rfl
            have HE := Aside0.mk (show ∃ f', t.size - (k + 2) < f' ∧ wordsGo (s.size + 1) s.data.toList [] = wordsGo f' (t.data.toList.drop (k + 2)) (l ++ t.data.toList.take k ++ [0]) by
              rw [hI.out.e]
              cases f with
              | zero => exact absurd hI.out.fl (by omega)
              | succ f =>
                refine ⟨f, by have := hI.out.fl; omega, ?_⟩
                rw [wordsGo, HK.out, if_neg (by rw [size_list]; omega)]
                simp only [Int.toNat_natCast]
                rw [byte_at t (k + 1) hkn, if_neg h1, if_pos h2])
            have hn := hI.out.n
            have hlen2 : (Lib.byteCells (l ++ t.data.toList.take k)).length + 1 ≤ 140737488355328 := by
              rw [Lib.byteCells_length, List.length_append, List.length_take, size_list]; omega
            clear h1 h2
            go_wp2_with fail
            refine (write_byte (w.heap.size + 1) (w.heap.size + 1) _ 0 _ Hb.out hlen2 hsz2).mono ?_
            rintro e w3 ⟨rfl, hb3, hbel⟩
            obtain ⟨f', hf', he'⟩ := HE.out
            have HN := Aside0.mk (show WordsI w w0 s (t.extract (k + 2) t.size) (l ++ t.data.toList.take k ++ [0]) f' w3 from
              ⟨.inr (by
                have e : Lib.byteCells (l ++ t.data.toList.take k ++ [0]) = Lib.byteCells (l ++ t.data.toList.take k) ++ [.int .u8 0] := by simp [Lib.byteCells]
                rw [e]; exact hb3),
               by
                have e : (t.extract (k + 2) t.size).size = t.size - (k + 2) := by rw [ByteArray.size_extract]; omega
                rw [e, List.length_append, List.length_append, List.length_take, size_list]
                simp only [List.length_cons, List.length_nil]
                omega,
               by
                have e : (t.extract (k + 2) t.size).size = t.size - (k + 2) := by rw [ByteArray.size_extract]; omega
                rw [e]; exact hf',
               by rw [he', extract_from], D2.out.trans hbel⟩)
            clear hb3 hbel hf' he'
            go_wp2_with fail
            go_roundw
            case rel => exact ⟨t.extract (k + 2) t.size, l ++ t.data.toList.take k ++ [0], f', rfl, HN⟩
            case measure => simp [strSize, ByteArray.size_extract]; omega
          · have hv2 : (((t[k + 1]).toNat : Int) == 255) = false := by
              have : (t[k + 1]).toNat ≠ 255 := fun e => h2 (UInt8.toNat_inj.1 e)
              simp; omega
            have HE := Aside0.mk (show wordsGo (s.size + 1) s.data.toList [] = ([], [], 1) by
              rw [hI.out.e]
              cases f with
              | zero => exact absurd hI.out.fl (by omega)
              | succ f =>
                rw [wordsGo, HK.out, if_neg (by rw [size_list]; omega)]
                simp only [Int.toNat_natCast]
                rw [byte_at t (k + 1) hkn, if_neg h1, if_neg h2])
            clear h1 h2
            go_wp2_with fail
            refine bodyPost_ret (v := .tuple #[.agg #[.bool false, .int .i64 0, .string ⟨#[]⟩], .string ⟨#[]⟩, .int .i64 1]) ?ra4 rfl ?pa4
            case ra4 => simp [results, Tryd.results31, go_sem, hc0, hc1, hc2]
            case pa4 => exact ⟨by rw [HE.out], by repeat (first | exact below_from B0.out D2.out | refine below_set ?_ (Nat.le_refl _))⟩
end Go.Proofs.YtdodfelbejkbiaaDoor.K
