/-
  What single operations of the machine do, said of the executor's state; calls by contract.
-/
import Derived.Test.YtmglkddddpipgaaK1
set_option linter.unusedVariables false
set_option linter.unusedSimpArgs false
namespace Go.Proofs.Ytmglkddddpipgaa.Sx
open Go.RowKit

section
variable {P : Program} {B : Base} {ρ : List D} {st : SS} {o : Oper} {α : AS} {a : Act} {bs : List Act} {w : World} {g : G} {Φ : Nat → Cont}

theorem RelG.grow [Arn] (h : RelG B ρ α a bs w g) {w' : World} (hg : w.grownBy w' none) (q : Nat → Nat → Prop) (hq : ∀ b o, q b o → w.heap.size ≤ b ∧ b < w'.heap.size) :
    RelG B ρ α a bs w' { g with p := g.p.more q } := by
  have hB : B.B0 ≤ w.heap.size := Nat.le_trans h.hB h.bel.size
  have hl : LeC ρ α g w ρ α { g with p := g.p.more q } w' :=
    ⟨fun _ _ h => h, fun β row h => ⟨⟨row, h⟩, rfl⟩, fun _ h => ⟨h, rfl, rfl, rfl⟩, fun b o hp => ⟨.inl hp, World.cell?_of_block (hg.block b (h.pwf b o hp) (by simp))⟩, fun _ _ _ h => h⟩
  have hpl : ∀ b o, b < w.heap.size → (g.p.more q) b o → g.p b o := fun b o hlt hp => hp.elim id fun hp => by have := (hq _ _ hp).1; omega
  refine h.world hl rfl rfl rfl ?_ ?_ ?_ (h.bel.grown hg hB (by simp)) h.dk rfl rfl rfl (fun b hlt _ => ⟨hg.block b hlt (by simp), fun o => ⟨hpl b o hlt, .inl⟩⟩)
    (fun b r hr => ⟨Nat.lt_of_lt_of_le (h.hl.owb b r hr) hg.size, .inl ⟨r, hr⟩⟩) (fun b r hr _ => ⟨hr, hg.block b (h.hl.owb b r hr) (by simp), fun o hp => hpl b o (h.hl.owb b r hr) hp⟩)
  · intro β row hb; have hbo := h.box β row hb
    obtain ⟨cs, el, h4, _⟩ := hbo.cells; refine RelG.BoxOk_mono hl hbo rfl rfl ?_ (hg.block _ (block_lt h4) (by simp))
    rintro o (hp | hp)
    · exact hbo.np o hp
    · have := (hq _ _ hp).1; have := block_lt h4; omega
  · intro k hk; obtain ⟨h1, n, xs, h2, h3, hdy⟩ := h.live k hk; refine ⟨h1, n, xs, h2.kept hg (by cases (g.T k).ownBlock <;> simp), fun b hb => ⟨(h3 b hb).1, ?_⟩, hdy.mono hl.mem hl.ad (fun _ _ h => h) (fun _ h => h) rfl rfl rfl ?_⟩
    rotate_left 1
    · rintro b hb hno o (hp | hp)
      · exact hno o hp
      · have := (hq _ _ hp).1; have := (h2.lt b hb).2; omega
    rintro o ho (hp | hp)
    · exact (h3 b hb).2 o ho hp
    · have := (hq _ _ hp).1; have := (h2.lt b hb).2; omega
  · rintro b o (hp | hp)
    · exact Nat.lt_of_lt_of_le (h.pwf b o hp) hg.size
    · exact (hq b o hp).2

theorem Pre.grows [Arn] (p : Pre P B ρ st o α a bs w g) {t : Ty} {x : t.den} {v : Value} {w' : World} (h : (execOp a.eval o).run P w = .ok (.value v) w') (hg : w.grownBy w' none)
    (q : Nat → Nat → Prop) (hq : ∀ b o, q b o → w.heap.size ≤ b ∧ b < w'.heap.size) (hn : nth ρ st.nv = some ⟨t, x⟩) (hr : Rep (g.p.more q) w' t [v] x) :
    Does P o a w (Post B ρ α { dst := o.dst, sv := .one (.a (.v st.nv) t), nv := 1 } st.nb st.ntok bs) := by
  have h1 := p.rel.grow hg q hq
  exact does_value h ⟨_, upd_put α o.dst _ 1 _ _ (h1.put p.dst ⟨⟨t, x⟩, hn, rfl, hr⟩)⟩

theorem foldl_push [Arn] (ns : List Int) : ∀ (s : ByteArray), (ns.foldl (fun r n => r.push (UInt8.ofNat n.toNat)) s).data.toList = s.data.toList ++ ns.map (fun n => UInt8.ofNat n.toNat) := by
  induction ns with
  | nil => intro s; simp
  | cons n ns ih =>
    intro s; rw [List.foldl_cons, ih]; show (s.data.push _).toList ++ _ = _
    simp

theorem conv_does [Arn] (p : Pre P B ρ st o α a bs w g) {src dst : TypeId} {x : Operand} {ax : A} {dx : D} {q : Pr} {ty : Ty} (ho : o.op = .convert src dst x)
    (h1 : ax.ev ρ = some dx) (h3 : RepD g.p w (a.eval x) dx)
    (hk : (∃ k k' u, P.underlying src = some u ∧ P.underlying dst = some (.int k) ∧ dx.t = .int k' ∧ q = .conv k ∧ ty = .int k) ∨
      (∃ u e, P.underlying src = some u ∧ P.underlying dst = some (.slice e) ∧ P.underlying e = some (.int .u8) ∧ sizeT P e = 1 ∧ dx.t = .str ∧ q = .s2b ∧ ty = .sl (.int .u8)) ∨
      (∃ e, P.underlying src = some (.slice e) ∧ P.underlying dst = some .string ∧ P.underlying e = some (.int .u8) ∧ dx.t = .sl (.int .u8) ∧ q = .b2s ∧ ty = .str))
    (he : EnvOk Φ ρ st.nv q [ax]) : Does P o a w (Post B ρ α { dst := o.dst, sv := .one (.a (.v st.nv) ty), nv := 1 } st.nb st.ntok bs) := by
  obtain ⟨outs, h4, h5⟩ := he.get (evs1 h1)
  rcases hk with ⟨k, k', u, hs, hd, h2, rfl, rfl⟩ | ⟨u, e, hs, hd, heu, hsz, h2, rfl, rfl⟩ | ⟨e, hs, hd, heu, h2, rfl, rfl⟩
  · obtain ⟨n, rfl, hv, bn⟩ := int_of h2 h3; simp only [evalPr, oi] at h4; subst h4; refine p.prim (t := .int k) (x := k.wrap n) (v := .int k (k.wrap n)) ?_ (h5 0 _ rfl) ⟨rfl, wrap_wf _ _⟩
    unfold execOp; simp [ho, hv, Sem.run_bind, convert, run_underlying hs, run_underlying hd, Conv.intToInt]
  · obtain ⟨s, rfl, hv, hm⟩ := str_of h2 h3; simp only [evalPr, oi] at h4; subst h4; have hsz' := Lib.bytesWorld_size w e s
    refine p.grows (t := .sl (.int .u8)) (x := bytesI s) (v := .slice (some ⟨w.heap.size, 0, none⟩) s.size (grownCap w s.size 0 e)) (w' := Lib.bytesWorld w e s) ?_
      ⟨rfl, rfl, rfl, by omega, fun k hk _ => Lib.bytesWorld_at_old w e s k hk⟩ (fun b o => b = w.heap.size ∧ o < s.size) (fun b o h => ⟨by omega, by omega⟩) (h5 0 _ rfl) ?_
    · unfold execOp; simp [ho, hv, Sem.run_bind, Lib.run_convert_string_bytes w src dst e s hs hd heu]
    · have hl : (bytesI s).length = s.size := bytesI_len s
      refine .inr (.inl ⟨w.heap.size, 0, grownCap w s.size 0 e, by rw [hl], by rw [hl]; exact grownCap_ge w s.size 0 e, grownCap_le_maxLen w s.size 0 e hm, fun i y hy => ?_⟩)
      have hlt : i < s.size := by rw [← hl]; exact (List.getElem?_eq_some_iff.1 hy).1
      refine ⟨[.int .u8 (s.data.toList.getD i 0).toNat], ?_, ?_⟩
      · intro j v hj; cases j with
        | zero =>
          simp only [List.getElem?_cons_zero, oi] at hj; subst hj; have e0 : 0 + i * Ty.width (.int .u8) + 0 = i := by simp [Ty.width]
          rw [e0]; exact ⟨.inr ⟨rfl, hlt⟩, Lib.bytesWorld_cell w e s i hlt⟩
        | succ j => simp at hj
      · have hy' : y = ((s.data.toList.getD i 0).toNat : Int) := by
          have hd : s.data.toList[i]? = some (s.data.toList.getD i 0) := by
            rw [List.getD_eq_getElem?_getD, List.getElem?_eq_getElem (by simpa using hlt)]; rfl
          unfold bytesI at hy; rw [List.getElem?_map, hd] at hy; simpa using hy.symm
        exact ⟨by rw [hy'], by rw [hy']; exact u8_wf _⟩
  · obtain ⟨xs, rfl, hr⟩ := sl_of h2 h3; simp only [evalPr, oi] at h4; subst h4; rcases sl_cases hr with ⟨hv, rfl⟩ | ⟨b, off, cap, hv, hc1, hc2, hcs⟩ | ⟨ad, hv, rfl⟩
    · refine p.prim (t := .str) (x := []) (v := .string .empty) ?_ (h5 0 _ rfl) ⟨.empty, rfl, rfl, by unfold maxLen; simp⟩
      unfold execOp; simp [ho, hv, Sem.run_bind, run_convert_bytes_string w src dst e none 0 0 hs heu hd, Conv.bytesToString]
    rotate_left
    · refine p.prim (t := .str) (x := []) (v := .string .empty) ?_ (h5 0 _ rfl) ⟨.empty, rfl, rfl, by unfold maxLen; simp⟩
      have hlc : (loadCells ad ([] : List Int).length).run P w = .ok (([] : List Int).map (Value.int .u8)).toArray w := by
        have := run_loadCells_list (P := P) w ad [] (fun j v hj => by simp at hj)
        simpa using this
      unfold execOp; have hrb := run_bytesToString w _ _ 0 [] hlc
      simp only [List.length_nil] at hrb; simp [ho, hv, Sem.run_bind, run_convert_bytes_string w src dst e _ _ _ hs heu hd, hrb]
    · have hin : ∀ i (n : Int), xs[i]? = some n → IntKind.u8.min ≤ n ∧ n ≤ IntKind.u8.max := fun i n hn => by
        obtain ⟨cs, _, h7⟩ := hcs i n hn; exact h7.2
      have hcell : ∀ i (n : Int), xs[i]? = some n → w.cell? ⟨b, off + i, none⟩ = some (.int .u8 n) := fun i n hn => by
        obtain ⟨cs, h6, h7⟩ := hcs i n hn; obtain ⟨rfl, _⟩ := h7; have := (h6 0 _ rfl).2
        simpa [Ty.width] using this
      have hlc : (loadCells ⟨b, off, none⟩ xs.length).run P w = .ok (xs.map (Value.int .u8)).toArray w := by
        have := run_loadCells_list (P := P) w ⟨b, off, none⟩ (xs.map (Value.int .u8)) (fun j v hj => by
          rw [Addr.add_mid]; rw [List.getElem?_map] at hj; cases hx : xs[j]? with
          | none => simp [hx] at hj
          | some n => rw [hx] at hj; simp at hj; subst hj; exact hcell j n hx)
        simpa using this
      have hdata : (xs.foldl (fun (r : ByteArray) (n : Int) => r.push (UInt8.ofNat n.toNat)) ByteArray.empty).data.toList = xs.map (fun n : Int => UInt8.ofNat n.toNat) := by
        rw [foldl_push]; rfl
      refine p.prim (t := .str) (x := xs) (v := .string (xs.foldl (fun r n => r.push (UInt8.ofNat n.toNat)) ByteArray.empty)) ?_ (h5 0 _ rfl) ⟨_, rfl, ?_, ?_⟩
      · unfold execOp; simp [ho, hv, Sem.run_bind, run_convert_bytes_string w src dst e _ _ _ hs heu hd, run_bytesToString w _ _ _ xs hlc]
      · unfold bytesI; rw [hdata, List.map_map]; symm
        have : xs.map ((fun b : UInt8 => (b.toNat : Int)) ∘ fun n : Int => UInt8.ofNat n.toNat) = xs.map id := by
          apply List.map_congr_left
          intro n hn; obtain ⟨i, hi⟩ := List.getElem?_of_mem hn
          have := hin i n hi
          simp [IntKind.min, IntKind.max, IntKind.signed, IntKind.bits] at this
          simp [UInt8.toNat_ofNat']
          omega
        rw [this, List.map_id]
      · have : (xs.foldl (fun (r : ByteArray) (n : Int) => r.push (UInt8.ofNat n.toNat)) ByteArray.empty).size = xs.length := by
          show (xs.foldl (fun (r : ByteArray) (n : Int) => r.push (UInt8.ofNat n.toNat)) ByteArray.empty).data.size = xs.length
          rw [← Array.length_toList, hdata, List.length_map]
        rw [this]; omega
end

end Go.Proofs.Ytmglkddddpipgaa.Sx

namespace Go.Proofs.Ytmglkddddpipgaa.Sx
open Go.RowKit

section
variable {P : Program} {B : Base} {ρ : List D} {st : SS} {o : Oper} {α : AS} {a : Act} {bs : List Act} {w : World} {g : G} {Φ : Nat → Cont}

structure Appended (w : World) (base : Nat) (e : TypeId) (sz : Nat) (v : Value) (n m : Nat) (ys : List Value) (v' : Value) (w' : World) : Prop where
  grown : w.grownBy w' v.ownBlock
  own : w'.ownsRow base e sz v' (n + m) ys
  same : ∀ b, v.ownBlock = some b → ∀ o, o < n * sz → w'.cell? ⟨b, o, none⟩ = w.cell? ⟨b, o, none⟩
  where_ : ∀ b, v'.ownBlock = some b → v.ownBlock = some b ∨ w.heap.size ≤ b
  nil : v' = .slice none 0 0 ∨ ∃ b cap, v' = .slice (some ⟨b, 0, none⟩) (n + m) cap ∧ n + m ≤ cap ∧ cap ≤ maxLen

theorem appended_new [Arn] (base : Nat) (e : TypeId) (i : TypeInfo) (z : Value) (hzs : z.cells.size = i.size) (v : Value) (n m old : Nat) (xs news : List Value)
    (hx : xs.length = n * i.size) (hl : news.length = m * i.size) (h63 : n + m ≤ maxLen) (hbase : base ≤ w.heap.size) (hv : ∀ b, v.ownBlock = some b → b < w.heap.size) :
    Appended w base e i.size v n m (xs ++ news) (.slice (some ⟨w.heap.size, 0, none⟩) (n + m) (grownCap w (n + m) old e))
      (w.drew.alloc (.cells (xs.toArray ++ news.toArray ++ Builtin.zeroCells z.cells (grownCap w (n + m) old e - (n + m))) e)) := by
  have hge := grownCap_ge w (n + m) old e
  have hcm : grownCap w (n + m) old e ≤ maxLen := grownCap_le_maxLen w (n + m) old e h63
  have hlen : (xs ++ news).length = (n + m) * i.size := by rw [List.length_append, hx, hl, Nat.add_mul]
  refine ⟨⟨rfl, rfl, rfl, by simp, fun k hk _ => heap_alloc_old w.drew _ k hk⟩, ⟨hlen, .inr ⟨w.heap.size, _, _, rfl, hbase, heap_alloc_new w.drew _, hge, hcm, ?_, ?_⟩⟩, ?_, ?_, .inr ⟨_, _, rfl, hge, hcm⟩⟩
  · simp only [Array.size_append, List.size_toArray, size_zeroCells, hzs, hx, hl, ← Nat.add_mul]; congr 1
    omega
  · simp only [Array.toList_append, List.append_assoc]; rw [← List.append_assoc, ← hlen]; exact List.take_left
  · intro b hb o' ho'; exact World.cell?_of_block (heap_alloc_old w.drew _ b (hv b hb))
  · intro b hb; simp only [Value.ownBlock, oi] at hb; exact .inr (by omega)

theorem append_run [Arn] (base : Nat) (t t1 ty e : TypeId) (i : TypeInfo) (z : Value) (d1 : TypeDesc) (ht : P.underlying t = some (.slice e)) (ht1 : P.underlying t1 = some d1) (hd1 : d1 = .string ∨ ∃ e1, d1 = .slice e1)
    (hi : P.info? e = some i) (hz : i.zero = some z) (hzs : z.cells.size = i.size)
    (v : Value) (n : Nat) (xs : List Value) (hown : w.ownsRow base e i.size v n xs)
    (x : Value) (m : Nat) (news : List Value) (hx0 : (Builtin.lenOf x).run P w = .ok m w) (hxs : ∀ w', w'.heap = w.heap → (Builtin.firstCells i.size m x).run P w' = .ok news.toArray w') (hl : news.length = m * i.size)
    (h1 : ∀ u ∈ news, u.oneCell' = true) (h63 : n + m ≤ maxLen) (hbytes : (n + m) * i.bytes ≤ 140737488355328) (hbase : base ≤ w.heap.size) :
    ∃ v' w', (Builtin.append_ #[t, t1] ty #[v, x]).run P w = .ok v' w' ∧ Appended w base e i.size v n m (xs ++ news) v' w' := by
  have hsmall : n + m ≤ 9223372036854775807 := by simp only [maxLen] at h63; omega
  have hlen : (xs ++ news).length = (n + m) * i.size := by rw [List.length_append, hown.1, hl, Nat.add_mul]
  have hf := hxs w rfl
  have hfd := hxs w.drew rfl
  rcases hown.2 with ⟨rfl, rfl⟩ | ⟨gb, cap, cur, rfl, hbg, hg, hnc, hcm, hcs, htake⟩
  · have hxn : xs = [] := List.eq_nil_of_length_eq_zero (by simpa using hown.1)
    subst hxn; by_cases hm : m = 0
    · subst hm; have hn : news = [] := List.eq_nil_of_length_eq_zero (by simpa using hl)
      subst hn; refine ⟨.slice none 0 0, w, ?_, ⟨⟨rfl, rfl, rfl, Nat.le_refl _, fun _ _ _ => rfl⟩, by simpa using World.ownsRow_nil w base e i.size, fun _ _ _ _ => rfl, fun b hb => by simp [Value.ownBlock] at hb, .inl rfl⟩⟩
      rcases hd1 with rfl | ⟨e1, rfl⟩ <;> simp [Builtin.append_, run_underlying ht, run_underlying ht1, sizeOf, typeInfo, hi, hx0, hf]
    · refine ⟨_, _, ?_, appended_new base e i z hzs (.slice none 0 0) 0 m 0 [] news (by simp) hl h63 hbase (by simp [Value.ownBlock])⟩
      have h63' : ¬ (9223372036854775807 < (m : Int)) := by omega
      have h48' : ¬ (281474976710656 < Builtin.nextslicecap m 0 * i.bytes) := by rw [nextslicecap_zero (by omega)]; simp only [Nat.zero_add] at hbytes; omega
      rcases hd1 with rfl | ⟨e1, rfl⟩ <;>
        simp [Builtin.append_, run_underlying ht, run_underlying ht1, sizeOf, typeInfo, zeroValue, hi, hz, hx0, hm, h63', h48', Question.forced, run_firstCells_none, hfd, newRow, grownCap]
  · by_cases hroom : n + m ≤ cap
    · have hfit : 0 + n * i.size + news.length ≤ cur.size := by rw [hl, hcs, Nat.zero_add, ← Nat.add_mul]; exact Nat.mul_le_mul_right _ hroom
      have hst := run_storeCells_at P gb (n * i.size) e news 0 cur w hg (by simpa using hfit) h1
      simp only [Nat.add_zero] at hst; have hset : cur.toList.take (n * i.size) ++ news ++ cur.toList.drop (n * i.size + news.length) = (xs ++ news) ++ cur.toList.drop (n * i.size + news.length) := by rw [htake]
      refine ⟨.slice (some ⟨gb, 0, none⟩) (n + m) cap, w.setRow gb (cur.toList.take (n * i.size) ++ news ++ cur.toList.drop (n * i.size + news.length)).toArray, ?_, ?_⟩
      · rcases hd1 with rfl | ⟨e1, rfl⟩ <;>
          simp [Builtin.append_, run_underlying ht, run_underlying ht1, sizeOf, typeInfo, hi, hx0, hroom, hf, Addr.add_lit, hst]
      · refine ⟨⟨rfl, rfl, rfl, by simp [World.setRow], fun k _ hk => setRow_other w gb k _ (fun e => hk (by simp [Value.ownBlock, e]))⟩, ⟨hlen, .inr ⟨gb, cap, _, rfl, hbg, setRow_heap w gb cur _ e _ hg, hroom, hcm, ?_, ?_⟩⟩, ?_, ?_, .inr ⟨gb, cap, rfl, hroom, hcm⟩⟩
        · simp only [List.size_toArray, List.length_append, List.length_take, List.length_drop, Array.length_toList]; omega
        · rw [hset, ← hlen]; exact List.take_left
        · intro b hb o' ho'; simp only [Value.ownBlock, oi] at hb; subst hb; rw [cell_of_row _ gb o' _ e (0, 0) (setRow_heap w gb cur _ e _ hg), cell_of_row w gb o' cur e (0, 0) hg]; have hlt : o' < cur.size := by rw [hcs]; exact Nat.lt_of_lt_of_le ho' (Nat.mul_le_mul_right _ hnc)
          simp only [List.getElem?_toArray, List.append_assoc]; rw [List.getElem?_append_left (by simp; omega), List.getElem?_take, if_pos ho']
          simp
        · intro b hb; exact .inl hb
    · refine ⟨_, _, ?_, appended_new base e i z hzs _ n m cap xs news hown.1 hl h63 hbase (fun b hb => by simp only [Value.ownBlock, oi] at hb; subst hb; exact block_lt hg)⟩
      have hn : ¬ (n + m ≤ cap) := hroom
      have h63' : ¬ (9223372036854775807 < ((n : Int) + (m : Int))) := by omega
      have h48' : ¬ (281474976710656 < Builtin.nextslicecap (n + m) cap * i.bytes) := by
        have := growslice_fits (need := n + m) (old := cap) (bytes := i.bytes) (by omega) hbytes; omega
      have hold : (Builtin.firstCells i.size n (.slice (some ⟨gb, 0, none⟩) n cap)).run P w.drew = .ok xs.toArray w.drew :=
        run_firstCells_some (P := P) w.drew i.size n ⟨gb, 0, none⟩ n cap xs hown.1 (by
          intro j u hu; have := hown.cells (g := gb) rfl j u hu
          simpa using this)
      rcases hd1 with rfl | ⟨e1, rfl⟩ <;>
        simp [Builtin.append_, run_underlying ht, run_underlying ht1, sizeOf, typeInfo, zeroValue, hi, hz, hx0, hn, h63', h48', Question.forced, hfd, hold, newRow, grownCap] <;>
        (congr 2; apply Array.ext'; simp)

theorem zero_some [Arn] {t : TypeId} {z : List SC} (hz : zeroCells' P t = some z) : ∃ i v, P.info? t = some i ∧ i.zero = some v ∧ v.cells.size = z.length := by
  obtain ⟨i, v, h1, h2, h3⟩ := zero_rep hz; have := (h3 (ρ := []) (α := ⟨0, fun _ => .dead, fun _ => none, fun _ => False, fun _ => False, [], fun _ => none, fun _ => none, fun _ => none⟩) (g := ⟨⟨fun _ _ => False, fun _ _ _ => False⟩, fun _ => 0, fun _ => undef, fun _ => 0, fun _ => 0, fun _ => none⟩) (w := default)).len
  exact ⟨i, v, h1, h2, by simpa using this.symm⟩

theorem list_cells [Arn] {p : PF} {e : Ty} (hpos : 0 < e.width) {b off : Nat} : ∀ (xs : List e.den) (i0 : Nat), (∀ i x, xs[i]? = some x → ∃ cs, CellsAt p w b (off + (i0 + i) * e.width) cs ∧ Rep p w e cs x) →
    ∃ cs : List Value, cs.length = xs.length * e.width ∧ CellsAt p w b (off + i0 * e.width) cs ∧ (∀ u ∈ cs, u.oneCell' = true) ∧ ∀ i x, xs[i]? = some x → Rep p w e ((cs.drop (i * e.width)).take e.width) x
  | [], i0, _ => ⟨[], by simp, fun j v h => by simp at h, by simp, fun i x h => by simp at h⟩
  | x :: xs, i0, h => by
    obtain ⟨c0, h1, h2⟩ := h 0 x rfl; have hc0 := Rep.len _ _ _ h2
    obtain ⟨cs, h3, h4, h5, h6⟩ := list_cells hpos xs (i0 + 1) (fun i y hy => by
      have := h (i + 1) y hy
      rwa [show i0 + (i + 1) = i0 + 1 + i by omega] at this)
    refine ⟨c0 ++ cs, by simp [hc0, h3, Nat.add_mul]; omega, ?_, ?_, ?_⟩
    · intro j v hj; by_cases hlt : j < c0.length
      · rw [List.getElem?_append_left hlt] at hj; have := h1 j v hj
        simpa using this
      · rw [List.getElem?_append_right (by omega)] at hj; have := h4 _ _ hj
        rw [hc0, show off + (i0 + 1) * e.width + (j - e.width) = off + i0 * e.width + j by rw [Nat.add_mul]; omega] at this
        exact this
    · intro u hu; rcases List.mem_append.1 hu with hu | hu
      · exact Rep.one _ _ _ h2 u hu
      · exact h5 u hu
    · intro i y hy; cases i with
      | zero =>
        simp only [List.getElem?_cons_zero, oi] at hy; subst hy; simp only [Nat.zero_mul, List.drop_zero, ← hc0, List.take_left]; exact h2
      | succ i =>
        have := h6 i y (by simpa using hy)
        rwa [Nat.add_mul, Nat.one_mul, Nat.add_comm, ← hc0, List.drop_append, List.drop_eq_nil_of_le (Nat.le_add_right _ _), List.nil_append, Nat.add_sub_cancel_left, hc0]

theorem cells_list [Arn] {p : PF} {e : Ty} {b off n cap : Nat} {xs : List e.den} {cs : List Value} (hn : xs.length = n) (hc : CellsAt p w b off cs) (hcap : n ≤ cap) (hm : cap ≤ maxLen)
    (h : ∀ i x, xs[i]? = some x → Rep p w e ((cs.drop (i * e.width)).take e.width) x) : Rep p w (.sl e) [.slice (some ⟨b, off, none⟩) n cap] xs := by
  subst hn; refine .inr (.inl ⟨b, off, cap, rfl, hcap, hm, fun i x hx => ⟨_, ?_, h i x hx⟩⟩)
  intro j v hj; rw [List.getElem?_take] at hj; split at hj
  · rw [List.getElem?_drop] at hj; have := hc _ _ hj
    rwa [← Nat.add_assoc] at this
  · cases hj
end

end Go.Proofs.Ytmglkddddpipgaa.Sx

namespace Go.Proofs.Ytmglkddddpipgaa.Sx
open Go.RowKit

section
variable {P : Program} {B : Base} {ρ : List D} {st : SS} {o : Oper} {α : AS} {a : Act} {bs : List Act} {w : World} {g : G} {Φ : Nat → Cont}

theorem tyOf_width [Arn] : ∀ (n : Nat) (t : TypeId) (ty : Ty), tyOf P n t = some ty → sizeT P t = ty.width
  | 0, _, _, h => by simp [tyOf] at h
  | n + 1, t, ty, h => by
    simp only [tyOf] at h; split at h
    · split at h
      · rename_i hs; cases h; simpa [Ty.width] using hs
      · cases h
    · split at h
      · rename_i hs; cases h; simpa [Ty.width] using hs
      · cases h
    · split at h
      · rename_i hs; cases h; simpa [Ty.width] using hs
      · cases h
    · split at h
      · rename_i hs; split at h
        · cases h; simpa [Ty.width] using hs
        · cases h
      · cases h
    · split at h
      · split at h
        · rename_i hs; cases h; simp only [Bool.and_eq_true, beq_iff_eq] at hs; exact hs.2
        · cases h
      · cases h
    · obtain ⟨_, hs, ⟨_, rfl | rfl⟩ | ⟨_, rfl⟩⟩ := ptrOf_some h <;> simpa [Ty.width] using hs

theorem litCells_len [Arn] : ∀ (ts : List Ty) (es : List (Option TypeId)) (vs : List Value) (cs : List SC), litCells ts es vs = some cs → cs.length = ts.length
  | [], _, [], cs, h => by simp only [litCells, oi] at h; subst h; rfl
  | [], _, _ :: _, cs, h => by simp [litCells] at h
  | _ :: _, _, [], cs, h => by simp [litCells] at h
  | t :: ts, es, v :: vs, cs, h => by
    simp only [litCells] at h; split at h
    · rename_i c cs' h1 h2; cases h; simp [litCells_len ts _ vs _ h2]
    · cases h

theorem zero_size [Arn] {t : TypeId} {z : List SC} (hz : zeroCells' P t = some z) : ∃ i v, P.info? t = some i ∧ i.zero = some v ∧ v.cells.size = i.size ∧ i.size = sizeT P t ∧ z.length = sizeT P t := by
  obtain ⟨i, v, h1, h2, h3⟩ := zero_some hz; have hs : sizeT P t = i.size := by simp [sizeT, h1]
  have hzl : z.length = sizeT P t := by
    unfold zeroCells' at hz; split at hz
    · rename_i ty i' h4 h5; split at hz
      · rw [litCells_len _ _ _ _ hz, cells_width, ← tyOf_width _ _ _ h4]
      · cases hz
    · cases hz
  exact ⟨i, v, h1, h2, by omega, hs.symm, hzl⟩

theorem own_elems [Arn] {base : Nat} {el : TypeId} {e : Ty} {v : Value} {n : Nat} {xc : List Value} {xs : List e.den} (hown : w.ownsRow base el e.width v n xc) (hr : Rep g.p w (.sl e) [v] xs) :
    xs.length = n ∧ ∀ i x, xs[i]? = some x → Rep g.p w e ((xc.drop (i * e.width)).take e.width) x := by
  rcases sl_cases hr with ⟨rfl, rfl⟩ | ⟨b, off, cap, rfl, hc1, hc2, hcs⟩ | ⟨ad, rfl, rfl⟩
  · refine ⟨?_, fun i x h => by simp at h⟩
    rcases hown.2 with ⟨_, rfl⟩ | ⟨_, _, _, h, _⟩
    · rfl
    · cases h
  rotate_left
  · refine ⟨?_, fun i x h => by simp at h⟩
    rcases hown.2 with ⟨h, _⟩ | ⟨_, _, _, h, _⟩
    · cases h
    · simp only [Value.slice.injEq] at h; exact h.2.1
  · rcases hown.2 with ⟨h, _⟩ | ⟨gb, cap', cur, h, _⟩
    · cases h
    · simp only [Value.slice.injEq, oi, Addr.mk.injEq] at h; obtain ⟨⟨rfl, rfl, _⟩, hn, rfl⟩ := h; refine ⟨hn, fun i x hx => ?_⟩
      obtain ⟨cs, h1, h2⟩ := hcs i x hx; have hl := Rep.len _ _ _ h2
      have hlt : i < n := by rw [← hn]; exact (List.getElem?_eq_some_iff.1 hx).1
      have heq : (xc.drop (i * e.width)).take e.width = cs := by
        apply List.ext_getElem?
        intro j; rw [List.getElem?_take, List.getElem?_drop]; by_cases hj : j < e.width
        · rw [if_pos hj]; have hj' : j < cs.length := by omega
          have := (h1 j _ (List.getElem?_eq_getElem hj')).2
          rw [Nat.zero_add] at this; rw [← hn] at hown; have hlt2 : i * e.width + j < xs.length * e.width := by
            have : (i + 1) * e.width ≤ xs.length * e.width := Nat.mul_le_mul_right _ (by omega)
            rw [Nat.add_mul] at this; omega
          rw [hown.cellAt _ hlt2] at this; rw [this, List.getElem?_eq_getElem hj']
        · rw [if_neg hj, List.getElem?_eq_none (by omega)]
      rw [heq]; exact h2

theorem upd_tok [Arn] (α : AS) (dst : Option Tmp) (sv : SV) (kill : Option Nat) (nb nt nv : Nat) {a : Act} {w : World} (h : RelG B ρ ((tokAS α kill nt).put dst sv) a bs w g) :
    RelG B ρ (α.upd { dst := dst, sv := sv, kill := kill, nt := 1, nv := nv } nb nt) a bs w g := by
  refine h.ext rfl (fun _ => rfl) (fun _ => rfl) (fun k => ?_) (fun k hk => ?_) rfl
  · simp only [AS.upd, AS.put, tokAS]; have : (nt ≤ k ∧ k < nt + 1) ↔ k = nt := by omega
    rw [this]
  · simp only [AS.upd, AS.put, tokAS] at hk ⊢; have : (nt ≤ k ∧ k < nt + 1) ↔ k = nt := by omega
    rwa [this] at hk

theorem own_does [Arn] (p : Pre P B ρ st o α a bs w g) {kill : Option Nat} {v v' : Value} {w' : World} {el : TypeId} {e : Ty} {n m : Nat} {xc yc : List Value} {zs : List e.den} {nv : Nat}
    (hrun : (execOp a.eval o).run P w = .ok (.value v') w') (hf : ¬ α.known st.ntok)
    (hv : v.ownBlock = none ∨ ∃ j, kill = some j ∧ α.live j ∧ g.T j = v ∧ g.tw j = e.width)
    (ho : v.ownBlock ≠ none → w.ownsRow B.B0 el e.width v n xc) (hap : Appended w B.B0 el e.width v n m (xc ++ yc) v' w')
    (hz : zs.length = n + m) (hel : ∀ i x, zs[i]? = some x → Rep g.p w e (((xc ++ yc).drop (i * e.width)).take e.width) x)
    (hn : nth ρ st.nv = some ⟨.sl e, zs⟩) :
    Does P o a w (Post B ρ α { dst := o.dst, sv := .one (.own st.nv st.ntok e el), kill := kill, nt := 1, nv := nv } st.nb st.ntok bs) := by
  obtain ⟨g', h1, h2, h3, h4, h5, h6⟩ := p.rel.newTok (k := st.ntok) (n' := n + m) hf hap.grown hv ho hap.own (fun _ => Nat.le_add_right _ _) hap.same hap.where_
  refine does_value hrun ⟨g', upd_tok α o.dst _ kill _ _ nv (h1.put p.dst ?_)⟩
  refine ⟨zs, hn, ?_, .inr rfl, h3.symm, h4, h5⟩
  rcases hap.nil with rfl | ⟨b, cap, rfl, hc1, hc2⟩
  · refine .inl ⟨rfl, ?_⟩
    rcases hap.own.2 with ⟨_, h⟩ | ⟨_, _, _, h, _⟩
    · exact List.eq_nil_of_length_eq_zero (by omega)
    · cases h
  · refine cells_list (cs := xc ++ yc) hz ?_ hc1 hc2 (fun i x hx => Rep.mono h2.mem h2.ad _ _ _ (hel i x hx))
    intro j u hj; have hlt : j < (n + m) * e.width := by rw [← hap.own.1]; exact (List.getElem?_eq_some_iff.1 hj).1
    rw [Nat.zero_add]; exact ⟨h6 b rfl j hlt, by rw [hap.own.cellAt j hlt]; exact hj⟩

theorem append_does [Arn] (p : Pre P B ρ st o α a bs w g) {t0 t1 e : TypeId} {d1 : TypeDesc} {x y : Operand} {xs : Array Operand} {ts : Array TypeId} {te : Ty} {cx : SC} {ax ay : A} {dy : D} {kill : Option Nat} {q : Pr} {z : List SC}
    (ho : o.op = .call { callee := .builtin .append, args := xs, argTypes := ts }) (hxs : xs.toList = [x, y]) (hts : ts.toList = [t0, t1])
    (hu : P.underlying t0 = some (.slice e)) (hu1 : P.underlying t1 = some d1) (hw : te.width = sizeT P e) (hpos : 0 < te.width) (hby : bytesT P e ≤ 256) (hz : zeroCells' P e = some z)
    (hx : SCRep ρ α g w cx (a.eval x)) (htok : appTok st te e cx = some kill) (hax : ∃ t, cx.arg = some (ax, t)) (hlive : ∀ k, kill = some k → α.live k)
    (k1 : ay.ev ρ = some dy) (k3 : RepD g.p w (a.eval y) dy)
    (hk : (q = .apps ∧ te = .int .u8 ∧ d1 = .string ∧ dy.t = .str) ∨ (∃ e1, q = .app ∧ d1 = .slice e1 ∧ dy.t = .sl te))
    (hf : ¬ α.known st.ntok) (he : EnvOk Φ ρ st.nv q [ax, ay]) :
    Does P o a w (Post B ρ α { dst := o.dst, sv := .one (.own st.nv st.ntok te e), kill := kill, nt := 1, nv := 1 } st.nb st.ntok bs) := by
  obtain ⟨i, zv, hi, hzv, hzs, hsz, hzl⟩ := zero_size hz; have hisz : i.size = te.width := by omega
  have hib : i.bytes ≤ 256 := by simpa [bytesT, hi] using hby
  have hx' : xs = #[x, y] := by apply Array.ext'; simpa using hxs
  have ht' : ts = #[t0, t1] := by apply Array.ext'; simpa using hts
  subst hx'; subst ht'; have hbase : B.B0 ≤ w.heap.size := Nat.le_trans p.rel.hB p.rel.bel.size
  obtain ⟨v, hvx⟩ : ∃ v, a.eval x = v := ⟨_, rfl⟩
  have hX : ∃ (l : List te.den) (n : Nat) (xc : List Value), ax.ev ρ = some ⟨.sl te, l⟩ ∧ Rep g.p w (.sl te) [v] l ∧ w.ownsRow B.B0 e te.width v n xc ∧
      (v.ownBlock = none ∨ ∃ j, kill = some j ∧ α.live j ∧ g.T j = v ∧ g.tw j = te.width) := by
    rw [hvx] at hx; cases cx with
    | own i k t e' =>
      simp only [appTok] at htok; split at htok
      · rename_i hc; simp only [Bool.and_eq_true, beq_iff_eq] at hc; obtain ⟨⟨_, rfl⟩, rfl⟩ := hc; cases htok; obtain ⟨l, h1, h2, h3, h4, h5, h6⟩ := hx; obtain ⟨tt, hax⟩ := hax; simp only [SC.arg, oi, Prod.mk.injEq] at hax; obtain ⟨rfl, _⟩ := hax; have hlk := hlive k rfl
        obtain ⟨_, n, xc, h7, _⟩ := p.rel.live k hlk; rw [h5, h6, ← h4] at h7; exact ⟨l, n, xc, h1, h2, h7, .inr ⟨k, rfl, hlk, h4.symm, h6⟩⟩
      · cases htok
    | nl t' e' =>
      simp only [appTok] at htok; split at htok
      · rename_i hc; subst hc; obtain ⟨tt, hax⟩ := hax; simp only [SC.arg, oi, Prod.mk.injEq] at hax; obtain ⟨rfl, _⟩ := hax; have hvn : v = .slice none 0 0 := hx
        subst hvn; exact ⟨[], 0, [], rfl, .inl ⟨rfl, rfl⟩, World.ownsRow_nil _ _ _ _, .inl rfl⟩
      · cases htok
    | _ => simp [appTok] at htok
  obtain ⟨l, n, xc, hl1, hl2, hown, hvo⟩ := hX; obtain ⟨hln, hle⟩ := own_elems hown hl2; rw [← hisz] at hown; have fin : ∀ (m : Nat) (yc : List Value) (ys : List te.den), ys.length = m → yc.length = m * i.size → (∀ i x, ys[i]? = some x → Rep g.p w te ((yc.drop (i * te.width)).take te.width) x) →
      (∀ u ∈ yc, u.oneCell' = true) → (Builtin.lenOf (a.eval y)).run P w = .ok m w → (∀ w', w'.heap = w.heap → (Builtin.firstCells i.size m (a.eval y)).run P w' = .ok yc.toArray w') →
      l.length + m ≤ BIG → nth ρ st.nv = some ⟨.sl te, l ++ ys⟩ → (d1 = .string ∨ ∃ e1, d1 = .slice e1) →
      Does P o a w (Post B ρ α { dst := o.dst, sv := .one (.own st.nv st.ntok te e), kill := kill, nt := 1, nv := 1 } st.nb st.ntok bs) := by
    intro m yc ys hym hyl hyr hy1 hlen hfc hbig hn hd1; have h63 : n + m ≤ maxLen := by unfold BIG at hbig; unfold maxLen; omega
    have hbytes : (n + m) * i.bytes ≤ 140737488355328 := by
      have : (n + m) * i.bytes ≤ 549755813888 * 256 := Nat.mul_le_mul (by unfold BIG at hbig; omega) hib
      omega
    obtain ⟨v', w', hrun, hap⟩ := append_run B.B0 t0 t1 o.type e i zv d1 hu hu1 hd1 hi hzv hzs v n xc hown (a.eval y) m yc hlen hfc hyl hy1 h63 hbytes hbase
    rw [hisz] at hap; have hxl : xc.length = n * te.width := by rw [hown.1, hisz]
    refine own_does p (kill := kill) (v := v) (v' := v') (n := n) (m := m) (xc := xc) (yc := yc) (zs := l ++ ys) (call_builtin_run ho fun c => ?_) hf hvo (fun _ => by rw [← hisz]; exact hown) hap (by simp [hln, hym]) ?_ hn
    · simp only [builtin, List.map_toArray, List.map_cons, List.map_nil, hvx, Sem.run_bind, hrun, Result.andThen_ok, Sem.run_pure]
    · intro j u hu'; by_cases hj : j < n
      · rw [List.getElem?_append_left (by omega)] at hu'; have := hle j u hu'
        have hsub : ((xc ++ yc).drop (j * te.width)).take te.width = (xc.drop (j * te.width)).take te.width := by
          have hle2 : (j + 1) * te.width ≤ n * te.width := Nat.mul_le_mul_right _ (by omega)
          rw [Nat.add_mul] at hle2; rw [List.drop_append_of_le_length (by omega), List.take_append_of_le_length (by simp; omega)]
        rw [hsub]; exact this
      · rw [List.getElem?_append_right (by omega), hln] at hu'; have := hyr _ u hu'
        have hsub : ((xc ++ yc).drop (j * te.width)).take te.width = (yc.drop ((j - n) * te.width)).take te.width := by
          have hle2 : n * te.width ≤ j * te.width := Nat.mul_le_mul_right _ (by omega)
          rw [List.drop_append, List.drop_eq_nil_of_le (by omega), List.nil_append, hxl, ← Nat.sub_mul]
        rw [hsub]; exact this
  rcases hk with ⟨rfl, rfl, rfl, hdt⟩ | ⟨e1, rfl, rfl, hdt⟩
  · obtain ⟨s, rfl, hvy, hm⟩ := str_of hdt k3; obtain ⟨outs, h4, h5⟩ := he.get (evs2 hl1 k1)
    simp only [evalPr, Option.ite_none_right_eq_some, oi] at h4; obtain ⟨hbig, rfl⟩ := h4; have hs1 : i.size = 1 := by rw [hisz]; rfl
    refine fin s.size (s.data.toList.map fun b => .int .u8 b.toNat) (bytesI s) (bytesI_len s) (by simp [hs1]) ?_ ?_ ?_ ?_ (by rw [bytesI_len] at hbig; exact hbig) (h5 0 _ rfl) (.inl rfl)
    · intro j u hu'; unfold bytesI at hu'; rw [List.getElem?_map] at hu'; cases hb : s.data.toList[j]? with
      | none => rw [hb] at hu'; cases hu'
      | some b =>
        rw [hb] at hu'; simp only [Option.map_some, oi] at hu'; subst hu'; have : ((s.data.toList.map fun b => Value.int .u8 b.toNat).drop (j * Ty.width (.int .u8))).take (Ty.width (.int .u8)) = [.int .u8 b.toNat] := by
          simp only [Ty.width, Nat.mul_one]; have hlt := (List.getElem?_eq_some_iff.1 hb).1
          rw [List.take_one, List.head?_drop, List.getElem?_map, hb]; rfl
        rw [this]; exact ⟨rfl, u8_wf b⟩
    · intro u hu'; obtain ⟨b, _, rfl⟩ := List.mem_map.1 hu'; rfl
    · rw [hvy]; rfl
    · intro w' _; rw [hvy]; simp only [Builtin.firstCells, Sem.run_pure]; congr 1
      apply Array.ext'
      have : s.extract 0 s.size = s := by simp
      rw [this]; simp
  · obtain ⟨ys, rfl, hry⟩ := sl_of hdt k3; obtain ⟨outs, h4, h5⟩ := he.get (evs2 hl1 k1)
    simp only [evalPr, D.get, dif_pos, Option.ite_none_right_eq_some, oi] at h4; obtain ⟨hbig, rfl⟩ := h4; have h6 := h5 0 _ rfl
    rcases sl_cases hry with ⟨hvy, rfl⟩ | ⟨b, off, cap, hvy, hc1, hc2, hcs⟩ | ⟨ad, hvy, rfl⟩
    · refine fin 0 [] [] rfl (by simp) (fun i x h => by simp at h) (by simp) (by rw [hvy]; rfl) (fun w' _ => by rw [hvy]; rfl) hbig h6 (.inr ⟨e1, rfl⟩)
    rotate_left
    · refine fin 0 [] [] rfl (by simp) (fun i x h => by simp at h) (by simp) (by rw [hvy]; rfl) (fun w' _ => ?_) hbig h6 (.inr ⟨e1, rfl⟩)
      rw [hvy]; exact run_firstCells_some (P := P) w' i.size 0 ad 0 0 [] (by simp) (fun j u hj => by simp at hj)
    · obtain ⟨yc, h7, h8, h9, h10⟩ := list_cells (p := g.p) (w := w) (b := b) (off := off) hpos ys 0 (fun i x hx => by rw [Nat.zero_add]; exact hcs i x hx)
      rw [Nat.zero_mul, Nat.add_zero] at h8; refine fin ys.length yc ys rfl (by rw [h7, hisz]) h10 h9 (by rw [hvy]; rfl) (fun w' hw' => ?_) hbig h6 (.inr ⟨e1, rfl⟩)
      rw [hvy]; refine run_firstCells_some (P := P) w' i.size ys.length ⟨b, off, none⟩ ys.length cap yc (by rw [h7, hisz]) ?_
      intro j u hj; rw [Addr.add_mid]; have := (h8 j u hj).2
      have hc : w'.cell? ⟨b, off + j, none⟩ = w.cell? ⟨b, off + j, none⟩ := World.cell?_of_block (by rw [hw'])
      rw [hc]; exact this
end

end Go.Proofs.Ytmglkddddpipgaa.Sx

namespace Go.Proofs.Ytmglkddddpipgaa.Sx
open Go.RowKit

section
variable {P : Program} {B : Base} {ρ : List D} {st : SS} {o : Oper} {α : AS} {a : Act} {bs : List Act} {w : World} {g : G} {Φ : Nat → Cont}

theorem fold_set [Arn] (v : List Value) : ∀ (cs : Array Value) (off j0 : Nat), off + j0 + v.length ≤ cs.size →
    ((v.zipIdx j0).foldl (fun cs (c, j) => cs.setIfInBounds (off + j) c) cs).toList = setAt cs.toList (off + j0) v := by
  induction v with
  | nil => intro cs off j0 _; simp [setAt]
  | cons c v ih =>
    intro cs off j0 h; simp only [List.length_cons] at h; rw [List.zipIdx_cons, List.foldl_cons, ih _ off (j0 + 1) (by simp; omega)]
    simp only [setAt, Array.toList_setIfInBounds]; have hk : off + j0 < cs.toList.length := by simp only [Array.length_toList]; omega
    rw [List.set_eq_take_append_cons_drop, if_pos hk]; have hl : (cs.toList.take (off + j0)).length = off + j0 := by simp only [List.length_take]; omega
    have e1 : off + (j0 + 1) = (cs.toList.take (off + j0)).length + 1 := by omega
    have e2 : off + (j0 + 1) + v.length = (cs.toList.take (off + j0)).length + (1 + v.length) := by omega
    rw [e2, e1, List.take_length_add_append, List.drop_length_add_append, Nat.add_comm 1 v.length, List.drop_succ_cons, List.drop_drop]; simp only [List.take_succ_cons, List.take_zero, List.append_assoc, List.singleton_append, List.cons_append, List.length_cons, hl]; rw [show off + j0 + 1 + v.length = off + j0 + (v.length + 1) by omega]; rfl

theorem fill_rep [Arn] (p : Pre P B ρ st o α a bs w g) {place : Nat → Option (Nat × TypeId)} {pl : Nat → Option (Nat × Nat)} (hpl : ∀ i off t, place i = some (off, t) → pl i = some (off, sizeT P t)) :
    ∀ (parts : List (Nat × Operand)) (cs cs' : List SC) (cells : Array Value), fillP P st place cs parts = some cs' → All2 (SCRep ρ α g w) cs cells.toList → (∀ q ∈ parts, q.2 ∈ o.op.operands) →
    ∃ cells', Instr.fill pl cells (parts.map fun q => (q.1, a.eval q.2)) = some cells' ∧ All2 (SCRep ρ α g w) cs' cells'.toList ∧ cells'.size = cells.size
  | [], cs, cs', cells, h, hr, _ => by
    simp only [fillP, oi] at h; subst h; exact ⟨cells, rfl, hr, rfl⟩
  | (i, x) :: rest, cs, cs', cells, h, hr, hm => by
    simp only [fillP] at h; split at h
    · cases h
    · rename_i off t hp; split at h
      · rename_i v hv; split at h
        · rename_i hc; simp only [Bool.and_eq_true, beq_iff_eq, Nat.ble_eq] at hc; have hx := p.cells (hm (i, x) (by simp)) hv
          have hlv := hx.len
          have hlc := hr.len
          simp only [Array.length_toList] at hlv hlc; have hfs := fold_set (a.eval x).cells.toList cells off 0 (by simp only [Array.length_toList]; omega)
          have hr2 : All2 (SCRep ρ α g w) (setAt cs off v) ((a.eval x).cells.zipIdx.foldl (fun cs (c, j) => cs.setIfInBounds (off + j) c) cells).toList := by
            have h0 : (a.eval x).cells.zipIdx.foldl (fun cs (c, j) => cs.setIfInBounds (off + j) c) cells = (a.eval x).cells.toList.zipIdx.foldl (fun cs (c, j) => cs.setIfInBounds (off + j) c) cells := by
              rw [← Array.foldl_toList]; simp
            rw [h0]; simp only [Nat.add_zero] at hfs; rw [hfs]; exact hr.setAt off hx
          obtain ⟨cells', h1, h2, h3⟩ := fill_rep p hpl rest _ cs' _ h hr2 (fun q hq => hm q (by simp [hq]))
          refine ⟨cells', ?_, h2, ?_⟩
          · simp only [List.map_cons, Instr.fill, hpl i off t hp]; rw [if_neg (by simp; omega)]
            exact h1
          · rw [h3]; have := hr2.len
            rw [← Array.length_toList, ← this, ← Array.length_toList, ← hr.len]; simp [setAt]; omega
        · cases h
      · cases h

theorem tyOf_info [Arn] {n : Nat} {t : TypeId} {ty : Ty} (h : tyOf P n t = some ty) : ∃ i, P.info? t = some i ∧ i.size = sizeT P t := by
  have hu : (P.underlying t).isSome = true := by
    cases n with
    | zero => simp [tyOf] at h
    | succ n =>
      simp only [tyOf] at h; cases hx : P.underlying t with
      | none => simp [hx, ptrOf] at h
      | some d => rfl
  obtain ⟨i, h1, h2⟩ := info_of_underlying hu; exact ⟨i, h1, h2.symm⟩

theorem places_some [Arn] {n : Nat} : ∀ (fs : List Field) (ts : List Ty), tysOf (tyOf P n) fs = some ts →
    fs.mapM (fun f => (P.info? f.type).map fun i => (f.offset, i.size)) = some (fs.map fun f => (f.offset, sizeT P f.type))
  | [], ts, _ => by simp
  | f :: fs, ts, h => by
    simp only [tysOf] at h; split at h
    · rename_i t ts' h1 h2; obtain ⟨i, h3, h4⟩ := tyOf_info h1; have := places_some fs ts' h2
      simp [List.mapM_cons, h3, h4, this]
    · cases h

theorem build_does [Arn] (p : Pre P B ρ st o α a bs w g) {t : TypeId} {parts : Array (Nat × Operand)} {z cs : List SC} {fs : Array Field} (ho : o.op = .build t parts) (hz : zeroCells' P t = some z)
    (hu : P.underlying t = some (.struct fs)) (hf : fillP P st (fieldOf P t) z parts.toList = some cs) : Does P o a w (Post B ρ α { dst := o.dst, sv := .agg cs } st.nb st.ntok bs) := by
  obtain ⟨i, zv, hi, hzv, hzr⟩ := zero_rep hz; have hty : ∃ ts, tysOf (tyOf P 8) fs.toList = some ts := by
    unfold zeroCells' at hz; split at hz
    · rename_i ty i' h4 h5; unfold typeOf at h4; simp only [tyOf, hu] at h4; split at h4
      · rename_i ts hts; exact ⟨ts, hts⟩
      · cases h4
    · cases hz
  obtain ⟨ts, hts⟩ := hty; have hpl : ∀ j off t', fieldOf P t j = some (off, t') → (((fs.toList.map fun f => (f.offset, sizeT P f.type)).toArray)[j]? : Option (Nat × Nat)) = some (off, sizeT P t') := by
    intro j off t' hj; obtain ⟨fs', fd, h1, h2, rfl, rfl⟩ := fieldOf_some hj; rw [hu] at h1; cases h1; simp [h2]
  have hops : ∀ q ∈ parts.toList, q.2 ∈ o.op.operands := by
    intro q hq; rw [ho]; simp only [Op.operands, List.mem_toArray, List.mem_map]; exact ⟨q, hq, rfl⟩
  obtain ⟨cells', h1, h2, h3⟩ := fill_rep p hpl parts.toList z cs zv.cells hf hzr hops; have hb : P.built t (parts.map fun (q : Nat × Operand) => (q.1, a.eval q.2)).toList = some cells' := by
    unfold Program.built; simp only [hi, hu, hzv, places_some fs.toList ts hts, Array.toList_map]; exact h1
  refine p.value (v := .agg cells') ?_ ⟨cells', rfl, h2⟩
  unfold execOp; simp only [ho, Sem.run_bind, run_build w t _ cells' hb, Result.andThen_ok, Sem.run_pure]

theorem rep_get [Arn] {τ : Type} (z : List τ) (hz : 0 < z.length) : ∀ (n j : Nat), j < n * z.length → (Sx.rep z n)[j]? = z[j % z.length]?
  | 0, j, h => by omega
  | n + 1, j, h => by
    simp only [Sx.rep]; by_cases hj : j < z.length
    · rw [List.getElem?_append_left hj, Nat.mod_eq_of_lt hj]
    · rw [List.getElem?_append_right (by omega), rep_get z hz n (j - z.length) (by rw [Nat.add_mul] at h; omega)]
      rw [← Nat.mod_eq_sub_mod (Nat.le_of_not_lt hj)]

theorem rep_len [Arn] {τ : Type} (z : List τ) : ∀ n, (Sx.rep z n).length = n * z.length
  | 0 => by simp [Sx.rep]
  | n + 1 => by simp [Sx.rep, rep_len z n, Nat.add_mul]; omega

theorem all2_of_get [Arn] {τ υ : Type} {R : τ → υ → Prop} : ∀ (l : List τ) (m : List υ), l.length = m.length → (∀ (i : Nat) (x : τ) (y : υ), l[i]? = some x → m[i]? = some y → R x y) → All2 R l m
  | [], [], _, _ => .nil
  | [], _ :: _, h, _ => by simp at h
  | _ :: _, [], h, _ => by simp at h
  | x :: l, y :: m, h, hr => .cons (hr 0 x y rfl rfl) (all2_of_get l m (by simpa using h) fun i a b ha hb => hr (i + 1) a b (by simpa using ha) (by simpa using hb))

theorem All2.get2 [Arn] {τ υ : Type} {R : τ → υ → Prop} {l : List τ} {m : List υ} (h : All2 R l m) {i : Nat} {x : τ} {y : υ} (hx : l[i]? = some x) (hy : m[i]? = some y) : R x y := by
  obtain ⟨y', h1, h2⟩ := h.get i x hx; rw [hy] at h1; cases h1; exact h2

theorem zeros_rep [Arn] {z : List SC} {zs : Array Value} (hpos : 0 < z.length) (h : All2 (SCRep ρ α g w) z zs.toList) (n : Nat) :
    All2 (SCRep ρ α g w) (Sx.rep z n) ((Array.range (n * zs.size)).map (zs[· % zs.size]!)).toList := by
  have hl := h.len
  simp only [Array.length_toList] at hl; apply all2_of_get
  · simp [rep_len, hl]
  · intro i x y hx hy; have hlt : i < n * z.length := by rw [← rep_len]; exact (List.getElem?_eq_some_iff.1 hx).1
    rw [rep_get z hpos n i hlt] at hx; have hm : i % zs.size < zs.size := Nat.mod_lt _ (by omega)
    have hlt' : i < n * zs.size := by rw [← hl]; exact hlt
    rw [Array.toList_map, Array.toList_range, List.getElem?_map, List.getElem?_range hlt', Option.map_some, oi] at hy; subst hy; rw [hl] at hx; have : zs.toList[i % zs.size]? = some (zs[i % zs.size]!) := by simp [hm]
    exact h.get2 hx this

theorem args_len [Arn] : ∀ (cs : List SC) (xs : List A) (ts : List Ty), args cs = some (xs, ts) → xs.length = cs.length ∧ ts.length = cs.length
  | [], xs, ts, h => by simp only [args, oi, Prod.mk.injEq] at h; obtain ⟨rfl, rfl⟩ := h; exact ⟨rfl, rfl⟩
  | c :: r, xs, ts, h => by
    simp only [args] at h; split at h
    · rename_i x t xs' ts' h1 h2; cases h; obtain ⟨h3, h4⟩ := args_len r xs' ts' h2; exact ⟨by simp [h3], by simp [h4]⟩
    · cases h

theorem args_rep [Arn] : ∀ (cs : List SC) (vs : List Value) (xs : List A) (ts : List Ty), args cs = some (xs, ts) → All2 (SCRep ρ α g w) cs vs →
    ∃ ds, evs ρ xs = some ds ∧ ds.map (·.t) = ts ∧ All2 (fun d v => RepD g.p w v d) ds vs
  | [], vs, xs, ts, h, hr => by
    simp only [args, oi, Prod.mk.injEq] at h; obtain ⟨rfl, rfl⟩ := h; cases hr; exact ⟨[], rfl, rfl, .nil⟩
  | c :: r, vs, xs, ts, h, hr => by
    simp only [args] at h; split at h
    · rename_i x t xs' ts' h1 h2; cases h; cases hr with
      | cons h3 h4 =>
        obtain ⟨d, h5, h6, h7⟩ := arg_rep h1 h3; obtain ⟨ds, h8, h9, h10⟩ := args_rep r _ xs' ts' h2 h4; exact ⟨d :: ds, by simp only [evs, h5, h8], by simp [h6, h9], .cons h7 h10⟩
    · cases h

theorem one_of [Arn] {t : Ty} {ds : List D} {vs : List Value} (h : ds.map (·.t) = [t]) (hr : All2 (fun d v => RepD g.p w v d) ds vs) : ∃ (x : t.den) (v : Value), ds = [⟨t, x⟩] ∧ vs = [v] ∧ Rep g.p w t [v] x := by
  cases hr with
  | nil => simp at h
  | cons h1 h2 =>
    rename_i d v l m; simp only [List.map_cons, List.cons.injEq, List.map_eq_nil_iff] at h; obtain ⟨rfl, rfl⟩ := h; cases h2; exact ⟨d.x, v, rfl, rfl, h1⟩

theorem join_rep [Arn] : ∀ (t : Ty) (ds rest : List D) (vs : List Value), ds.map (·.t) = t.cells → All2 (fun d v => RepD g.p w v d) ds vs → ∃ x, join t (ds ++ rest) = some (x, rest) ∧ Rep g.p w t vs x
  | .unit, ds, rest, vs, h, hr => by
    have : ds = [] := by simpa [Ty.cells] using h
    subst this; cases hr; exact ⟨(), rfl, rfl⟩
  | .pair s t, ds, rest, vs, h, hr => by
    simp only [Ty.cells] at h; have h1 : (ds.take s.cells.length).map (·.t) = s.cells := by rw [List.map_take, h, List.take_left]
    have h2 : (ds.drop s.cells.length).map (·.t) = t.cells := by rw [List.map_drop, h, List.drop_left]
    obtain ⟨x, h3, h4⟩ := join_rep s (ds.take s.cells.length) (ds.drop s.cells.length ++ rest) (vs.take s.cells.length) h1 (hr.take _)
    obtain ⟨y, h5, h6⟩ := join_rep t (ds.drop s.cells.length) rest (vs.drop s.cells.length) h2 (hr.drop _)
    refine ⟨(x, y), ?_, vs.take s.cells.length, vs.drop s.cells.length, (List.take_append_drop _ _).symm, h4, h6⟩
    rw [← List.append_assoc, List.take_append_drop] at h3; simp only [join, h3, h5]
  | .int k, ds, rest, vs, h, hr => by
    obtain ⟨x, v, rfl, rfl, h1⟩ := one_of h hr; exact ⟨x, by simp [join, join1, D.get], h1⟩
  | .bool, ds, rest, vs, h, hr => by
    obtain ⟨x, v, rfl, rfl, h1⟩ := one_of h hr; exact ⟨x, by simp [join, join1, D.get], h1⟩
  | .str, ds, rest, vs, h, hr => by
    obtain ⟨x, v, rfl, rfl, h1⟩ := one_of h hr; exact ⟨x, by simp [join, join1, D.get], h1⟩
  | .sl e, ds, rest, vs, h, hr => by
    obtain ⟨x, v, rfl, rfl, h1⟩ := one_of h hr; exact ⟨x, by simp [join, join1, D.get], h1⟩
  | .nd e, ds, rest, vs, h, hr => by
    obtain ⟨x, v, rfl, rfl, h1⟩ := one_of h hr; exact ⟨x, by simp [join, join1, D.get], h1⟩
  | .ref k, ds, rest, vs, h, hr => by
    obtain ⟨x, v, rfl, rfl, h1⟩ := one_of h hr; exact ⟨x, by simp [join, join1, D.get], h1⟩
  | .pt e, ds, rest, vs, h, hr => by
    obtain ⟨x, v, rfl, rfl, h1⟩ := one_of h hr; exact ⟨x, by simp [join, join1, D.get], h1⟩

theorem mkRows_rep [Arn] (e : Ty) : ∀ (n : Nat) (ds : List D) (vs : List Value), ds.map (·.t) = Sx.rep e.cells n → All2 (fun d v => RepD g.p w v d) ds vs →
    ∃ xs, mkRows e n ds = some xs ∧ xs.length = n ∧ ∀ i x, xs[i]? = some x → Rep g.p w e ((vs.drop (i * e.width)).take e.width) x
  | 0, ds, vs, h, hr => by
    have : ds = [] := by simpa [Sx.rep] using h
    subst this; cases hr; exact ⟨[], rfl, rfl, fun i x h => by simp at h⟩
  | n + 1, ds, vs, h, hr => by
    simp only [Sx.rep] at h; have h1 : (ds.take e.cells.length).map (·.t) = e.cells := by rw [List.map_take, h, List.take_left]
    have h2 : (ds.drop e.cells.length).map (·.t) = Sx.rep e.cells n := by rw [List.map_drop, h, List.drop_left]
    obtain ⟨x, h3, h4⟩ := join_rep e (ds.take e.cells.length) (ds.drop e.cells.length) (vs.take e.cells.length) h1 (hr.take _)
    obtain ⟨xs, h5, h6, h7⟩ := mkRows_rep e n (ds.drop e.cells.length) (vs.drop e.cells.length) h2 (hr.drop _)
    rw [List.take_append_drop] at h3; refine ⟨x :: xs, ?_, by simp [h6], ?_⟩
    · simp only [mkRows, h3, h5]
    · intro i y hy; cases i with
      | zero =>
        simp only [List.getElem?_cons_zero, oi] at hy; subst hy; simpa [cells_width] using h4
      | succ i =>
        have := h7 i y (by simpa using hy)
        rw [List.drop_drop, cells_width] at this; rwa [Nat.add_mul, Nat.one_mul, Nat.add_comm (i * e.width)]

theorem buildSlice_does [Arn] (p : Pre P B ρ st o α a bs w g) {t e : TypeId} {len : Nat} {parts : Array (Nat × Operand)} {z cs : List SC} {te : Ty} {xs : List A} {us : List Ty} (ho : o.op = .buildSlice t len parts)
    (hu : P.underlying t = some (.slice e)) (hz : zeroCells' P e = some z) (hw : te.width = sizeT P e) (hpos : 0 < te.width) (hzl : z.length = te.width) (hsm : len * te.width ≤ 16777216)
    (hf : fillP P st (fun i => some (i * te.width, e)) (Sx.rep z len) parts.toList = some cs) (hargs : args cs = some (xs, us)) (hus : us = Sx.rep te.cells len)
    (hfr : ¬ α.known st.ntok) (he : EnvOk Φ ρ st.nv (.mk te len) xs) :
    Does P o a w (Post B ρ α { dst := o.dst, sv := .one (.own st.nv st.ntok te e), nt := 1, nv := 1 } st.nb st.ntok bs) := by
  obtain ⟨i, zv, hi, hzv, hzs, hsz, _⟩ := zero_size hz; obtain ⟨i', zv', hi', hzv', hzr⟩ := zero_rep hz; rw [hi] at hi'; cases hi'; rw [hzv] at hzv'; cases hzv'; have hisz : i.size = te.width := by omega
  have hzr0 := zeros_rep (ρ := ρ) (α := α) (g := g) (w := w) (by omega) (hzr (ρ := ρ) (α := α) (g := g) (w := w)) len
  have hops : ∀ q ∈ parts.toList, q.2 ∈ o.op.operands := by
    intro q hq; rw [ho]; simp only [Op.operands, List.mem_toArray, List.mem_map]; exact ⟨q, hq, rfl⟩
  obtain ⟨cells', h1, h2, h3⟩ := fill_rep p (place := fun i => some (i * te.width, e)) (pl := fun j => some (j * i.size, i.size)) (fun j off t' hj => by
    simp only [oi, Prod.mk.injEq] at hj; obtain ⟨rfl, rfl⟩ := hj; rw [hisz, hw]) parts.toList _ cs _ hf hzr0 hops
  obtain ⟨ds, h4, h5, h6⟩ := args_rep cs cells'.toList xs us hargs h2; obtain ⟨outs, h7, h8⟩ := he.get h4; obtain ⟨rows, h9, h10, h11⟩ := mkRows_rep te len ds cells'.toList (by rw [h5, hus]) h6
  simp only [evalPr, h9, oi] at h7; subst h7; have hlen : cells'.size = len * te.width := by rw [h3]; simp [hzs, hisz]
  have hb : B.B0 ≤ w.heap.size := Nat.le_trans p.rel.hB p.rel.bel.size
  have hlm : len ≤ maxLen := by
    have : len * 1 ≤ len * te.width := Nat.mul_le_mul_left _ hpos
    unfold maxLen; omega
  refine own_does p (kill := none) (v := .slice none 0 0) (v' := .slice (some ⟨w.heap.size, 0, none⟩) len len) (w' := w.alloc (.cells cells' e)) (n := 0) (m := len) (xc := []) (yc := cells'.toList) (zs := rows) ?_ hfr (.inl rfl)
    (fun h => absurd rfl h) ⟨World.grownBy_alloc w _ _, ?_, fun b hb => by simp [Value.ownBlock] at hb, fun b hb => ?_, .inr ⟨w.heap.size, len, by rw [Nat.zero_add], by omega, hlm⟩⟩ (by rw [h10, Nat.zero_add]) (by simpa using h11) (h8 0 _ rfl)
  · unfold execOp; by_cases h0 : len * i.size = 0
    · have hl0 : len = 0 := by
        rcases Nat.mul_eq_zero.1 h0 with h | h
        · exact h
        · omega
      subst hl0; have hc0 : cells' = #[] := Array.size_eq_zero_iff.1 (by simpa using hlen)
      have hp0 : parts.toList = [] := by
        cases hpl : parts.toList with
        | nil => rfl
        | cons q r =>
          exfalso
          rw [hpl] at hf; obtain ⟨j, y⟩ := q; simp only [fillP, Sx.rep] at hf; split at hf
          · rename_i v hv; by_cases hc : (v.length == sizeT P e && (j * te.width + v.length).ble (Sx.rep z 0).length) = true
            · simp only [Bool.and_eq_true, beq_iff_eq, Nat.ble_eq, Sx.rep, List.length_nil] at hc; omega
            · exact absurd hf (by
                show (if (v.length == sizeT P e && (j * te.width + v.length).ble (Sx.rep z 0).length) = true then _ else none) ≠ _
                rw [if_neg hc]; simp)
          · cases hf
      have hp1 : parts = #[] := by apply Array.ext'; simpa using hp0
      subst hp1; simp only [ho, Sem.run_bind, Instr.buildSlice, run_underlying hu w, Result.andThen_ok, sizeOf, typeInfo]; simp [hi, newRow, hc0, Instr.fill, Array.range]
      congr 2
      exact Array.size_eq_zero_iff.1 (by simp)
    · simp only [ho, Sem.run_bind]; rw [run_buildSlice w t e len _ cells' i zv hu hi hzv (by rw [hisz]; omega) h0 (by simpa [hzs] using h1)]
      rfl
  · refine ⟨by simp [hlen], .inr ⟨w.heap.size, len, cells', by rw [Nat.zero_add], hb, heap_alloc_new w _, by omega, hlm, hlen, ?_⟩⟩
    rw [Nat.zero_add, List.nil_append, ← hlen, ← Array.length_toList, List.take_length]
  · simp only [Value.ownBlock, oi] at hb; exact .inr (by omega)
end

end Go.Proofs.Ytmglkddddpipgaa.Sx

namespace Go.Proofs.Ytmglkddddpipgaa.Sx
open Go.RowKit

section
variable {P : Program} {B : Base} {ρ : List D} {st : SS} {o : Oper} {α : AS} {a : Act} {bs : List Act} {w : World} {g : G} {Φ : Nat → Cont}

theorem eqCells_app [Arn] : ∀ (d1 e1 : List D) {d2 e2 : List D} {b1 b2 : Bool}, eqCells d1 e1 = some b1 → eqCells d2 e2 = some b2 → eqCells (d1 ++ d2) (e1 ++ e2) = some (b1 && b2)
  | [], [], d2, e2, b1, b2, h1, h2 => by simp only [eqCells, oi] at h1; subst h1; simpa using h2
  | [], _ :: _, d2, e2, b1, b2, h1, h2 => by simp [eqCells] at h1
  | d :: d1, [], d2, e2, b1, b2, h1, h2 => by obtain ⟨t, x⟩ := d; cases t <;> simp [eqCells] at h1
  | d :: d1, e :: e1, d2, e2, b1, b2, h1, h2 => by
    obtain ⟨t, x⟩ := d; obtain ⟨u, y⟩ := e; cases t <;> cases u <;> simp only [eqCells, reduceCtorEq] at h1 <;>
      (split at h1
       · rename_i b hb; simp only [oi] at h1; subst h1; simp only [List.cons_append, eqCells, eqCells_app d1 e1 hb h2, Bool.and_assoc]
       · cases h1)

theorem valOf_one [Arn] {t : TypeId} {v : Value} (h : isAgg' P t = false) : valOf P t [v] = v := by simp [valOf, h]

theorem eqFields_run [Arn] {d : Nat} {n : Nat} (ih : ∀ (t : TypeId) (ty : Ty), tyOf P n t = some ty → eqOk P d t = true → ∀ (cx cy : List Value) (dx dy : List D), dx.map (·.t) = ty.cells → dy.map (·.t) = ty.cells →
      All2 (fun d v => RepD g.p w v d) dx cx → All2 (fun d v => RepD g.p w v d) dy cy → ∃ b, eqCells dx dy = some b ∧ ∀ k, d ≤ k → (Op.equalIn k t (valOf P t cx) (valOf P t cy)).run P w = .ok b w)
    {k : Nat} (hk : d ≤ k) (xs ys : Array Value) :
    ∀ (fs : List Field) (ts : List Ty) (off : Nat) (dx dy : List D), tysOf (tyOf P n) fs = some ts → offsOk off fs ts = true → (fs.all fun f => f.name != "_" && eqOk P d f.type) = true →
      dx.map (·.t) = (ts.map Ty.cells).flatten → dy.map (·.t) = (ts.map Ty.cells).flatten →
      All2 (fun d v => RepD g.p w v d) dx (xs.toList.drop off) → All2 (fun d v => RepD g.p w v d) dy (ys.toList.drop off) → off ≤ xs.size → off ≤ ys.size →
      ∃ b, eqCells dx dy = some b ∧ (Op.eqFields k xs ys fs).run P w = .ok b w
  | [], ts, off, dx, dy, h1, h2, h3, h4, h5, h6, h7, ox, oy => by
    simp only [tysOf, oi] at h1; subst h1; have hx : dx = [] := by simpa using h4
    have hy : dy = [] := by simpa using h5
    subst hx; subst hy; exact ⟨true, rfl, by simp [Op.eqFields]⟩
  | f :: fs, ts, off, dx, dy, h1, h2, h3, h4, h5, h6, h7, ox, oy => by
    simp only [tysOf] at h1; split at h1
    · rename_i t ts' h8 h9; cases h1; simp only [offsOk, Bool.and_eq_true, beq_iff_eq] at h2; obtain ⟨rfl, h2⟩ := h2; simp only [List.all_cons, Bool.and_eq_true] at h3; obtain ⟨⟨hname, heq⟩, h3⟩ := h3; simp only [List.map_cons, List.flatten_cons] at h4 h5; have hcw := cells_width t
      have a1 : (dx.take t.cells.length).map (·.t) = t.cells := by rw [List.map_take, h4, List.take_left]
      have a2 : (dx.drop t.cells.length).map (·.t) = (ts'.map Ty.cells).flatten := by rw [List.map_drop, h4, List.drop_left]
      have b1 : (dy.take t.cells.length).map (·.t) = t.cells := by rw [List.map_take, h5, List.take_left]
      have b2 : (dy.drop t.cells.length).map (·.t) = (ts'.map Ty.cells).flatten := by rw [List.map_drop, h5, List.drop_left]
      obtain ⟨b, hb1, hb2⟩ := ih f.type t h8 heq _ _ _ _ a1 b1 (h6.take t.cells.length) (h7.take t.cells.length)
      have h6' := h6.drop t.cells.length
      have h7' := h7.drop t.cells.length
      rw [List.drop_drop, hcw] at h6' h7'; have hsz : sizeT P f.type = t.width := tyOf_width _ _ _ h8
      obtain ⟨i, hi1, hi2⟩ := tyOf_info h8; have hu : (P.underlying f.type).isSome = true := by
        cases n with
        | zero => simp [tyOf] at h8
        | succ n =>
          simp only [tyOf] at h8; cases hx : P.underlying f.type with
          | none => simp [hx, ptrOf] at h8
          | some d => rfl
      have hag : isAgg' P f.type = false → sizeT P f.type = 1 := by
        intro ha; cases n with
        | zero => simp [tyOf] at h8
        | succ n =>
          simp only [tyOf] at h8; unfold isAgg' at ha; split at h8
          case h_6 => exact (ptrOf_some h8).2.1
          all_goals simp_all
      have hlx : f.offset + t.width ≤ xs.size := by
        have l1 := h6.len
        have l2 := congrArg List.length h4
        simp only [List.length_map, List.length_append, List.length_drop, Array.length_toList] at l1 l2; omega
      have hly : f.offset + t.width ≤ ys.size := by
        have l1 := h7.len
        have l2 := congrArg List.length h5
        simp only [List.length_map, List.length_append, List.length_drop, Array.length_toList] at l1 l2; omega
      obtain ⟨b', hc1, hc2⟩ := eqFields_run ih hk xs ys fs ts' (f.offset + t.width) (dx.drop t.width) (dy.drop t.width) h9 h2 h3 (by rw [← hcw]; exact a2) (by rw [← hcw]; exact b2) h6' h7' hlx hly
      have hpx := part_run (P := P) (w := w) hu (cs := xs) (off := f.offset) (by omega) hag
      have hpy := part_run (P := P) (w := w) hu (cs := ys) (off := f.offset) (by omega) hag
      refine ⟨b && b', ?_, ?_⟩
      · have := eqCells_app _ _ hb1 (d2 := dx.drop t.cells.length) (e2 := dy.drop t.cells.length) (by rw [hcw]; exact hc1)
        rwa [List.take_append_drop, List.take_append_drop] at this
      · unfold Op.eqFields; have hn : f.name ≠ "_" := by simpa using hname
        have e2 := hb2 k hk
        rw [hcw, ← hsz] at e2; simp only [hn, ne_eq, not_false_eq_true, if_true, Sem.run_bind, hpx, hpy, Result.andThen_ok, take2, e2]; cases b <;> simp [hc2]
    · cases h1

theorem eq_cells [Arn] : ∀ (d n : Nat) (t : TypeId) (ty : Ty), tyOf P n t = some ty → eqOk P d t = true → ∀ (cx cy : List Value) (dx dy : List D), dx.map (·.t) = ty.cells → dy.map (·.t) = ty.cells →
    All2 (fun d v => RepD g.p w v d) dx cx → All2 (fun d v => RepD g.p w v d) dy cy → ∃ b, eqCells dx dy = some b ∧ ∀ k, d ≤ k → (Op.equalIn k t (valOf P t cx) (valOf P t cy)).run P w = .ok b w
  | 0, n, t, ty, h1, h2 => by simp [eqOk] at h2
  | d + 1, 0, t, ty, h1, h2 => by simp [tyOf] at h1
  | d + 1, n + 1, t, ty, h1, h2 => by
    intro cx cy dx dy h4 h5 h6 h7; simp only [tyOf] at h1; simp only [eqOk] at h2; split at h1
    · rename_i k hu; split at h1
      · cases h1; obtain ⟨x, v, rfl, rfl, h8⟩ := one_of h4 h6; obtain ⟨y, u, rfl, rfl, h9⟩ := one_of h5 h7; obtain ⟨h8, _⟩ := h8; obtain ⟨h9, _⟩ := h9; simp only [List.cons.injEq, and_true] at h8 h9; subst h8; subst h9; refine ⟨decide (x = y), by simp [eqCells], fun m hm => ?_⟩
        obtain ⟨m, rfl⟩ : ∃ j, m = j + 1 := ⟨m - 1, by omega⟩
        rw [valOf_one (by simp [isAgg', hu]), valOf_one (by simp [isAgg', hu]), run_equalIn_int w m t _ _ x y hu]
        rfl
      · cases h1
    · rename_i hu; split at h1
      · cases h1; obtain ⟨x, v, rfl, rfl, h8⟩ := one_of h4 h6; obtain ⟨y, u, rfl, rfl, h9⟩ := one_of h5 h7; have h8' : [v] = [Value.bool x] := h8
        have h9' : [u] = [Value.bool y] := h9
        simp only [List.cons.injEq, and_true] at h8' h9'; subst h8'; subst h9'; refine ⟨x == y, by simp [eqCells], fun m hm => ?_⟩
        obtain ⟨m, rfl⟩ : ∃ j, m = j + 1 := ⟨m - 1, by omega⟩
        rw [valOf_one (by simp [isAgg', hu]), valOf_one (by simp [isAgg', hu]), run_equalIn_bool' w m t _ _ hu]
      · cases h1
    · rename_i hu; split at h1
      · cases h1; obtain ⟨x, v, rfl, rfl, s, h8, rfl, _⟩ := one_of h4 h6; obtain ⟨y, u, rfl, rfl, s', h9, rfl, _⟩ := one_of h5 h7; simp only [List.cons.injEq, and_true] at h8 h9; subst h8; subst h9; refine ⟨decide (bytesI s = bytesI s'), by simp [eqCells], fun m hm => ?_⟩
        obtain ⟨m, rfl⟩ : ∃ j, m = j + 1 := ⟨m - 1, by omega⟩
        rw [valOf_one (by simp [isAgg', hu]), valOf_one (by simp [isAgg', hu]), run_equalIn_string w m t _ _ hu, bytes_beq]
      · cases h1
    · rename_i hu; simp [hu] at h2
    · rename_i fs hu; simp only [hu, Bool.and_eq_true, Bool.not_eq_true'] at h2; split at h1
      · rename_i ts hts; split at h1
        · rename_i hoff; cases h1; simp only [Bool.and_eq_true] at hoff; have hpc : ∀ ts : List Ty, (pairs ts).cells = (ts.map Ty.cells).flatten := by
            intro ts; induction ts with
            | nil => rfl
            | cons t ts ih =>
              cases ts with
              | nil => simp [pairs]
              | cons u us => simp only [pairs, Ty.cells, ih, List.map_cons, List.flatten_cons]
          rw [hpc] at h4 h5; have hfo : P.underlying t = some (.struct (P.fieldsOf t)) := by simp [Program.fieldsOf, hu]
          have hfs : P.fieldsOf t = fs := by simp [Program.fieldsOf, hu]
          have hag : isAgg' P t = true := by simp [isAgg', hu]
          have main : ∀ k, d ≤ k → ∃ b, eqCells dx dy = some b ∧ (Op.eqFields k cx.toArray cy.toArray fs.toList).run P w = .ok b w := fun k hk =>
            eqFields_run (n := n) (d := d) (fun t ty a b => eq_cells d n t ty a b) hk cx.toArray cy.toArray fs.toList ts 0 dx dy hts hoff.1 h2.2 h4 h5 (by simpa using h6) (by simpa using h7) (Nat.zero_le _) (Nat.zero_le _)
          obtain ⟨b, hb, _⟩ := main d (Nat.le_refl _)
          refine ⟨b, hb, fun m hm => ?_⟩
          obtain ⟨m, rfl⟩ : ∃ j, m = j + 1 := ⟨m - 1, by omega⟩
          obtain ⟨b', hb', hr⟩ := main m (by omega)
          rw [hb] at hb'; cases hb'; simp only [valOf, hag, if_true]; rw [run_equalIn_struct w m t _ _ hfo h2.1, hfs]; exact hr
        · cases h1
      · cases h1
    · rcases (ptrOf_some h1).1 with ⟨_, hu⟩ | ⟨_, _, hu⟩ <;> simp [hu] at h2

theorem evs_append [Arn] : ∀ (xs ys : List A) (ds es : List D), evs ρ xs = some ds → evs ρ ys = some es → evs ρ (xs ++ ys) = some (ds ++ es)
  | [], ys, ds, es, h1, h2 => by simp only [evs, oi] at h1; subst h1; exact h2
  | x :: xs, ys, ds, es, h1, h2 => by
    simp only [evs] at h1; split at h1
    · rename_i d hd; split at h1
      · rename_i ds' hds; cases h1; simp only [List.cons_append, evs, hd, evs_append xs ys ds' es hds h2]
      · cases h1
    · cases h1

theorem evs_len [Arn] : ∀ (xs : List A) (ds : List D), evs ρ xs = some ds → ds.length = xs.length
  | [], ds, h => by simp only [evs, oi] at h; subst h; rfl
  | x :: xs, ds, h => by
    simp only [evs] at h; split at h
    · split at h
      · rename_i ds' hds; cases h; simp [evs_len xs ds' hds]
      · cases h
    · cases h

theorem binAgg_does [Arn] (p : Pre P B ρ st o α a bs w g) {op : BinOp} {t yt : TypeId} {x y : Operand} {cx cy : List SC} {ax ay : List A} {tx ty : List Ty} {u : Ty} {neg : Bool}
    (ho : o.op = .binOp op t x y yt) (hx : SVRep ρ α g w (.agg cx) (a.eval x)) (hy : SVRep ρ α g w (.agg cy) (a.eval y)) (h1 : args cx = some (ax, tx)) (h2 : args cy = some (ay, ty)) (hu : typeOf P t = some u)
    (he : eqOk P 6 t = true) (hg : P.eqGuardType P.depth t = false) (htx : tx = u.cells) (hty : ty = u.cells) (hop : (op = .eql ∧ neg = false) ∨ (op = .neq ∧ neg = true)) (hag : isAgg' P t = true)
    (hen : EnvOk Φ ρ st.nv (.eqs neg ax.length) (ax ++ ay)) :
    Does P o a w (Post B ρ α { dst := o.dst, sv := .one (.a (.v st.nv) .bool), nv := 1 } st.nb st.ntok bs) := by
  obtain ⟨vx, hvx, hx2⟩ := hx; obtain ⟨vy, hvy, hy2⟩ := hy; obtain ⟨dx, k1, k2, k3⟩ := args_rep cx vx.toList ax tx h1 hx2; obtain ⟨dy, l1, l2, l3⟩ := args_rep cy vy.toList ay ty h2 hy2; obtain ⟨outs, h4, h5⟩ := hen.get (evs_append ax ay dx dy k1 l1)
  obtain ⟨b, h6, h7⟩ := eq_cells 6 9 t u hu he vx.toList vy.toList dx dy (by rw [k2, htx]) (by rw [l2, hty]) k3 l3
  have hlen := evs_len ax dx k1
  simp only [evalPr, ← hlen, List.take_left, List.drop_left, h6, oi] at h4; subst h4; have h8 := h7 10000 (by decide)
  simp only [valOf, hag, if_true, Array.toArray_toList] at h8; refine p.prim (t := .bool) (x := if neg then !b else b) (v := .bool (if neg then !b else b)) ?_ (h5 0 _ rfl) rfl
  unfold execOp; rcases hop with ⟨rfl, rfl⟩ | ⟨rfl, rfl⟩
  · simp only [ho, hvx, hvy, Sem.run_bind, run_eqGuard_agg w _ t x y vx vy hg, Result.andThen_ok, run_eql_struct, h8, Sem.run_pure]; rfl
  · simp only [ho, hvx, hvy, Sem.run_bind, run_eqGuard_agg w _ t x y vx vy hg, Result.andThen_ok, run_neq_struct, h8, Sem.run_pure]; rfl

end
end Go.Proofs.Ytmglkddddpipgaa.Sx

namespace Go.Proofs.Ytmglkddddpipgaa.Sx
open Go.RowKit

def partVals : List (Bool × Nat) → List Value → List Value → Prop
  | [], [], cs => cs = []
  | (ag, n) :: r, u :: us, cs => ∃ c1 c2, cs = c1 ++ c2 ∧ c1.length = n ∧ ((ag = true ∧ u = .agg c1.toArray) ∨ (ag = false ∧ c1 = [u])) ∧ partVals r us c2
  | _, _, _ => False

def resVal : List Value → Value
  | [u] => u
  | us => .tuple us.toArray

def ownList : List (Ty × Option TypeId) → List Value → List (Value × TypeId × Nat)
  | (.sl t, some e) :: r, v :: vs => (v, e, t.width) :: ownList r vs
  | _ :: r, _ :: vs => ownList r vs
  | _, _ => []

structure Owned (B : Nat) (w : World) (p : PF) (l : List (Value × TypeId × Nat)) : Prop where
  own : ∀ (j : Nat) (v : Value) (e : TypeId) (sz : Nat), l[j]? = some (v, e, sz) → ∃ n xs, w.ownsRow B e sz v n xs ∧ ∀ b, v.ownBlock = some b → ∀ o, n * sz ≤ o → ¬ p b o
  dis : ∀ (i j : Nat) (x y : Value × TypeId × Nat) (b : Nat), l[i]? = some x → l[j]? = some y → x.1.ownBlock = some b → y.1.ownBlock = some b → i = j

def outL (sig : Sig) : List (Ty × Option TypeId) := (sig.outs.map (·.2)).flatten
def inL (sig : Sig) : List Ty := (sig.ins.map (·.2.cells)).flatten

structure Returned (sig : Sig) (w : World) (p : PF) (rs : List D) (v : Value) (w' : World) (p' : PF) (us cs : List Value) : Prop where
  val : v = resVal us
  bel : Below w.heap.size w w'
  old : ∀ b o, b < w.heap.size → (p' b o ↔ p b o)
  wf : ∀ b o, p' b o → b < w'.heap.size
  parts : partVals (sig.outs.map fun q => (q.1, q.2.length)) us cs
  rep : All2 (fun d v => RepD p' w' v d) rs cs
  tys : rs.map (·.t) = (outL sig).map (·.1)
  own : Owned w.heap.size w' p' (ownList (outL sig) cs)

def FnOk (P : Program) (f : FuncId) (sig : Sig) (F : List D → Option (List D)) : Prop :=
  (∃ fn c, P.funcs[f]? = some fn ∧ fn.body = some c ∧ (fn.name == "runtime.NumGoroutine") = false) ∧
  ∀ (w : World) (p : PF) (vs cs : List Value) (ds rs : List D), (∀ b o, p b o → b < w.heap.size) →
    partVals (sig.ins.map fun q => (q.1, q.2.cells.length)) vs cs → All2 (fun d v => RepD p w v d) ds cs → ds.map (·.t) = inL sig → F ds = some rs →
    Calls P f vs.toArray w fun e w' => ∃ v, e = .returned v ∧ ∃ p' us cs', Returned sig w p rs v w' p' us cs' ∧ p'.ad = p.ad

def outT (sig : Sig) : List Ty := (outL sig).map (·.1) ++ sig.ars.map fun q => .sl q.2.t

def gOf (p : PF) (om : Nat → Option Res) : G := ⟨p, fun _ => 0, fun _ => undef, fun _ => 0, fun _ => 0, om⟩

def InArs (ars : List (Nat × ArT)) (r : Res) : Prop := ∃ q ∈ ars, (∃ j, r = .obj q.1 j) ∨ ∃ j c, r = .obl q.1 j c

def ArAt (p : PF) (om : Nat → Option Res) (w : World) (q : Nat × ArT) (d : D) : Prop :=
  ∃ xs : List q.2.t.den, d = ⟨.sl q.2.t, xs⟩ ∧ (∀ j b, p.ad q.1 j b → j < xs.length ∧ ∀ b', p.ad q.1 j b' → b' = b) ∧ ∀ j y, xs[j]? = some y → ∃ b, p.ad q.1 j b ∧ ObjAt (gOf p om) w q.1 j q.2 b y

structure ReturnedA (sig : Sig) (w : World) (p : PF) (om : Nat → Option Res) (rs : List D) (v : Value) (w' : World) (p' : PF) (om' : Nat → Option Res) (us cs : List Value) : Prop where
  val : v = resVal us
  bel : Below 0 w w'
  fr : ∀ b, b < w.heap.size → om b = none → w'.heap[b]? = w.heap[b]? ∧ ∀ o, p' b o ↔ p b o
  mem : ∀ b o, p b o → p' b o ∧ w'.cell? ⟨b, o, none⟩ = w.cell? ⟨b, o, none⟩
  wf : ∀ b o, p' b o → b < w'.heap.size
  lab : ∀ b r, om' b = some r → b < w'.heap.size ∧ InArs sig.ars r
  labn : ∀ b r, om' b = some r → (∃ r', om b = some r') ∨ w.heap.size ≤ b
  parts : partVals (sig.outs.map fun q => (q.1, q.2.length)) us cs
  rep : ∃ rs1 as, rs = rs1 ++ as ∧ All2 (fun d v => RepD p' w' v d) rs1 cs ∧ rs1.map (·.t) = (outL sig).map (·.1) ∧ All2 (ArAt p' om' w') sig.ars as
  own : Owned 0 w' p' (ownList (outL sig) cs)
  ownl : ∀ (j : Nat) (x : Value × TypeId × Nat) (b : Nat), (ownList (outL sig) cs)[j]? = some x → x.1.ownBlock = some b → om' b = none ∧ ((∃ r, om b = some r) ∨ w.heap.size ≤ b)

def FnOkA (P : Program) (f : FuncId) (sig : Sig) (F : List D → Option (List D)) : Prop :=
  (∃ fn c, P.funcs[f]? = some fn ∧ fn.body = some c ∧ (fn.name == "runtime.NumGoroutine") = false) ∧
  ∀ (w : World) (p : PF) (om : Nat → Option Res) (vs cs : List Value) (ds as rs : List D), (∀ b o, p b o → b < w.heap.size) → (∀ b r, om b = some r → b < w.heap.size ∧ InArs sig.ars r) →
    partVals (sig.ins.map fun q => (q.1, q.2.cells.length)) vs cs → All2 (fun d v => RepD p w v d) ds cs → ds.map (·.t) = inL sig → All2 (ArAt p om w) sig.ars as → F (ds ++ as) = some rs →
    Calls P f vs.toArray w fun e w' => ∃ v, e = .returned v ∧ ∃ p' om' us cs', ReturnedA sig w p om rs v w' p' om' us cs' ∧ ∀ k j b, (p.ad k j b → p'.ad k j b) ∧ ((∀ q ∈ sig.ars, q.1 ≠ k) → p'.ad k j b → p.ad k j b)

def FnOkX (P : Program) (f : FuncId) (sig : Sig) (F : List D → Option (List D)) : Prop := (sig.ars = [] → FnOk P f sig F) ∧ (sig.ars ≠ [] → FnOkA P f sig F)

def ContOk (sig : Sig) (c : Cont) : Prop :=
  ∀ (R : Type) (ds : List D) (κ : List D → Option R) (r : R), c R ds κ = some r → ∃ outs, c (List D) ds some = some outs ∧ κ outs = some r ∧ outs.map (·.t) = outT sig

def noPF : PF := ⟨fun _ _ => False, fun _ _ _ => False⟩
abbrev FFlats (t : Ty) (xs : List Value) (ys : List t.den) : Prop := Flats noPF default t xs ys
def MOk (P : Program) (f g : FuncId) (c : Cont) : Prop :=
  (∃ fn b, P.funcs[f]? = some fn ∧ fn.body = some b ∧ (fn.name == "runtime.NumGoroutine") = false) ∧
  (∀ (R : Type) (ds : List D) (κ : List D → Option R) (r : R), c R ds κ = some r → ∃ outs, c (List D) ds some = some outs ∧ κ outs = some r ∧ outs.length = 1) ∧
  ∀ (w : World) (B : Nat) (e : TypeId) (t : Ty) (v : Value) (n : Nat) (xs : List Value) (ys : List t.den) (outs : List D), w.ownsRow B e t.width v n xs → FFlats t xs ys → t.flat = true → ys.length = n →
    c (List D) [⟨.sl t, ys⟩] some = some outs →
    Calls P f #[v, .func (.func g) #[] #[]] w fun en w' => en = .returned (.tuple #[]) ∧ w.grownBy w' v.ownBlock ∧
      ∃ (zs : List t.den) (xs' : List Value), outs = [⟨.sl t, zs⟩] ∧ w'.ownsRow B e t.width v n xs' ∧ zs.length = n ∧ FFlats t xs' zs

structure ΦOk (X : Cx) (Φ : Nat → Cont) : Prop where
  fn : ∀ f sig, X.Γ f = some sig → FnOkX X.P f sig (fun ds => Φ sig.id (List D) ds some) ∧ ContOk sig (Φ sig.id)
  mc : ∀ f g id, X.mc f g = some id → MOk X.P f g (Φ id)

section
variable {P : Program} {B : Base} {ρ : List D} {st : SS} {o : Oper} {α : AS} {a : Act} {bs : List Act} {w : World} {g : G} {Φ : Nat → Cont}

theorem fits_rep [Arn] : ∀ (ins : List (Bool × Ty)) (vs : List SV) (us : List Value), fits ins vs = true → All2 (SVRep ρ α g w) vs us →
    ∃ cs cvs, cellsL vs = some cs ∧ All2 (SCRep ρ α g w) cs cvs ∧ partVals (ins.map fun q => (q.1, q.2.cells.length)) us cvs ∧ ∃ xs, args cs = some (xs, (ins.map (·.2.cells)).flatten)
  | [], [], us, h, hr => by cases hr; exact ⟨[], [], rfl, .nil, rfl, [], rfl⟩
  | [], _ :: _, us, h, hr => by simp [fits] at h
  | _ :: _, [], us, h, hr => by simp [fits] at h
  | (ag, t) :: ins, v :: vs, us, h, hr => by
    cases hr with
    | cons h1 h2 =>
      rename_i u us; simp only [fits, Bool.and_eq_true] at h; obtain ⟨h3, h4⟩ := h; obtain ⟨cs, cvs, k1, k2, k3, xs, k4⟩ := fits_rep ins vs us h4 h2; have app : ∀ (c1 : List SC) (x1 : List A) (t1 : List Ty), args c1 = some (x1, t1) → args (c1 ++ cs) = some (x1 ++ xs, t1 ++ (ins.map (·.2.cells)).flatten) := by
        intro c1; induction c1 with
        | nil => intro x1 t1 hh; simp only [args, oi, Prod.mk.injEq] at hh; obtain ⟨rfl, rfl⟩ := hh; exact k4
        | cons c c1 ih =>
          intro x1 t1 hh; simp only [args] at hh; split at hh
          · rename_i x t xs' ts' e1 e2; cases hh; simp only [List.cons_append, args, e1, ih _ _ e2]
          · cases hh
      split at h3
      · rename_i c1; split at h3
        · rename_i x1 t1 he; simp only [beq_iff_eq] at h3; subst h3; obtain ⟨vv, rfl, h5⟩ := h1; have hlen := (args_len _ _ _ he).2
          refine ⟨c1 ++ cs, vv.toList ++ cvs, by simp [cellsL, SV.cells, k1], h5.app k2, ⟨vv.toList, cvs, rfl, ?_, .inl ⟨rfl, by simp⟩, k3⟩, x1 ++ xs, by simpa using app _ _ _ he⟩
          rw [← h5.len, hlen]
        · cases h3
      · rename_i c; split at h3
        · rename_i x1 t1 he; simp only [beq_iff_eq] at h3; refine ⟨[c] ++ cs, [u] ++ cvs, by simp [cellsL, SV.cells, k1], All2.app (.cons h1 .nil) k2, ⟨[u], cvs, rfl, by rw [← h3]; rfl, .inr ⟨rfl, rfl⟩, k3⟩, [x1] ++ xs, ?_⟩
          have := app [c] [x1] [t1] (by simp [args, he])
          rw [this]; simp [h3]
        · cases h3
      · cases h3

theorem ownList_len [Arn] : ∀ (l : List (Ty × Option TypeId)) (vs : List Value), vs.length = l.length → (ownList l vs).length = nOwn l
  | [], [], _ => rfl
  | [], _ :: _, h => by simp at h
  | _ :: _, [], h => by simp at h
  | (t, o) :: r, v :: vs, h => by
    have := ownList_len r vs (by simpa using h)
    cases t <;> cases o <;> simp [ownList, nOwn, this]

theorem ownList_app [Arn] : ∀ (l m : List (Ty × Option TypeId)) (vs us : List Value), vs.length = l.length → ownList (l ++ m) (vs ++ us) = ownList l vs ++ ownList m us
  | [], m, [], us, _ => rfl
  | [], _, _ :: _, _, h => by simp at h
  | _ :: _, _, [], _, h => by simp at h
  | (t, o) :: r, m, v :: vs, us, h => by
    have := ownList_app r m vs us (by simpa using h)
    cases t <;> cases o <;> simp [ownList, this]

theorem resCells_rep [Arn] : ∀ (l : List (Ty × Option TypeId)) (i k : Nat) (ds : List D) (vs : List Value), ds.map (·.t) = l.map (·.1) → All2 (fun d v => RepD g.p w v d) ds vs →
    (∀ j d, ds[j]? = some d → nth ρ (i + j) = some d) →
    (∀ j v e sz, (ownList l vs)[j]? = some (v, e, sz) → α.known (k + j) ∧ g.T (k + j) = v ∧ g.te (k + j) = e ∧ g.tw (k + j) = sz) → All2 (SCRep ρ α g w) (resCells i k l) vs
  | [], i, k, ds, vs, h1, h2, _, _ => by
    have : ds = [] := by simpa using h1
    subst this; cases h2; exact .nil
  | (t, ow) :: r, i, k, ds, vs, h1, h2, h3, h4 => by
    cases h2 with
    | nil => simp at h1
    | cons k1 k2 =>
      rename_i d v ds vs; simp only [List.map_cons, List.cons.injEq] at h1; obtain ⟨h1, h1'⟩ := h1; have hn : nth ρ i = some d := h3 0 d rfl
      have hnr : ∀ j d', ds[j]? = some d' → nth ρ (i + 1 + j) = some d' := fun j d' hj => by
        have := h3 (j + 1) d' (by simpa using hj)
        rwa [show i + 1 + j = i + (j + 1) by omega]
      have plain : (∀ te e, (t, ow) ≠ (.sl te, some e)) → All2 (SCRep ρ α g w) (resCells i k ((t, ow) :: r)) (v :: vs) := by
        intro hne; have hrc : resCells i k ((t, ow) :: r) = .a (.v i) t :: resCells (i + 1) k r := by
          cases t <;> cases ow <;> first | rfl | exact absurd rfl (hne _ _)
        have hol : ownList ((t, ow) :: r) (v :: vs) = ownList r vs := by
          cases t <;> cases ow <;> first | rfl | exact absurd rfl (hne _ _)
        rw [hrc]; rw [hol] at h4; exact .cons ⟨d, hn, h1, k1⟩ (resCells_rep r (i + 1) k ds vs h1' k2 hnr h4)
      cases ow with
      | none => exact plain (by simp)
      | some e =>
        cases t with
        | sl te =>
          obtain ⟨dt, dx⟩ := d; simp only at h1
          subst h1; have h5 := h4 0 v e te.width rfl
          refine .cons ⟨dx, hn, k1, h5.1, h5.2.1.symm, h5.2.2.1, h5.2.2.2⟩ (resCells_rep r (i + 1) (k + 1) ds vs h1' k2 hnr fun j v' e' sz hj => ?_)
          have := h4 (j + 1) v' e' sz (by simpa [ownList] using hj)
          rwa [show k + 1 + j = k + (j + 1) by omega]
        | _ => exact plain (by simp)

theorem resParts_rep [Arn] : ∀ (outs : List (Bool × List (Ty × Option TypeId))) (i k : Nat) (ds : List D) (us cs : List Value), partVals (outs.map fun q => (q.1, q.2.length)) us cs →
    ds.map (·.t) = ((outs.map (·.2)).flatten).map (·.1) → All2 (fun d v => RepD g.p w v d) ds cs → (∀ j d, ds[j]? = some d → nth ρ (i + j) = some d) →
    (∀ j v e sz, (ownList (outs.map (·.2)).flatten cs)[j]? = some (v, e, sz) → α.known (k + j) ∧ g.T (k + j) = v ∧ g.te (k + j) = e ∧ g.tw (k + j) = sz) →
    All2 (fun (q : Bool × List SC) u => ∃ vs : List Value, All2 (SCRep ρ α g w) q.2 vs ∧ ((q.1 = true ∧ u = Value.agg vs.toArray) ∨ (q.1 = false ∧ vs = [u]))) (resParts i k outs) us
  | [], i, k, ds, us, cs, hp, h1, h2, h3, h4 => by
    cases us with
    | nil => exact .nil
    | cons => simp [partVals] at hp
  | (ag, l) :: outs, i, k, ds, us, cs, hp, h1, h2, h3, h4 => by
    cases us with
    | nil => simp [partVals] at hp
    | cons u us =>
      simp only [List.map_cons, partVals] at hp; obtain ⟨c1, c2, rfl, hl, hk, hp'⟩ := hp; have hd1 : All2 (fun d v => RepD g.p w v d) (ds.take l.length) c1 := by have := h2.take l.length; rwa [List.take_left' hl] at this
      have hd2 : All2 (fun d v => RepD g.p w v d) (ds.drop l.length) c2 := by have := h2.drop l.length; rwa [List.drop_left' hl] at this
      simp only [List.map_cons, List.flatten_cons, List.map_append] at h1; have ht1 : (ds.take l.length).map (·.t) = l.map (·.1) := by rw [List.map_take, h1, List.take_left' (by simp)]
      have ht2 : (ds.drop l.length).map (·.t) = ((outs.map (·.2)).flatten).map (·.1) := by rw [List.map_drop, h1, List.drop_left' (by simp)]
      have hdl : (ds.take l.length).length = l.length := by rw [hd1.len, hl]
      simp only [List.map_cons, List.flatten_cons, ownList_app _ _ _ _ hl] at h4; have hol := ownList_len l c1 hl
      refine .cons ⟨c1, resCells_rep l i k _ _ ht1 hd1 (fun j d hj => h3 j d ?_) (fun j v e sz hj => h4 j v e sz ?_), hk⟩ (resParts_rep outs _ _ _ _ _ hp' ht2 hd2 (fun j d hj => ?_) fun j v e sz hj => ?_)
      · rw [List.getElem?_take] at hj; split at hj <;> simp_all
      · rw [List.getElem?_append_left (List.getElem?_eq_some_iff.1 hj).1]; exact hj
      · rw [Nat.add_assoc]; rw [List.getElem?_drop] at hj; exact h3 _ d hj
      · have := h4 (nOwn l + j) v e sz ?_
        · rwa [← Nat.add_assoc] at this
        · rw [← hol, List.getElem?_append_right (Nat.le_add_right _ _), Nat.add_sub_cancel_left]; exact hj

theorem resAll_rep [Arn] {ps : List (Bool × List SC)} {us : List Value} {sv : SV} (hs : resAll ps = some sv)
    (h : All2 (fun (q : Bool × List SC) u => ∃ vs : List Value, All2 (SCRep ρ α g w) q.2 vs ∧ ((q.1 = true ∧ u = Value.agg vs.toArray) ∨ (q.1 = false ∧ vs = [u]))) ps us) : SVRep ρ α g w sv (resVal us) := by
  have tup : SVRep ρ α g w (.tup ps) (.tuple us.toArray) := by
    refine ⟨us.toArray, rfl, Forall2.mono ?_ h⟩
    rintro q u ⟨vs, h1, (⟨h2, rfl⟩ | ⟨h2, rfl⟩)⟩
    · exact .inl ⟨h2, vs.toArray, rfl, by simpa using h1⟩
    · refine .inr ⟨h2, ?_⟩
      cases hq : q.2 with
      | nil => rw [hq] at h1; cases h1
      | cons c r =>
        rw [hq] at h1; cases h1 with
        | cons k1 k2 => cases k2; exact ⟨c, rfl, k1⟩
  match ps, us, h, hs, tup with
  | [], _, .nil, hs, tup => simp only [resAll, oi] at hs; subst hs; exact tup
  | [(ag, cs)], [u], .cons ⟨vs, h1, h2⟩ .nil, hs, tup =>
    simp only [resAll] at hs; have := mk_rep hs h1
    rcases h2 with ⟨h3, rfl⟩ | ⟨h3, rfl⟩
    · simp only at h3; subst h3; exact this
    · simp only at h3; subst h3; exact this
  | _ :: _ :: _, _ :: _ :: _, .cons _ (.cons _ _), hs, tup => simp only [resAll, oi] at hs; subst hs; exact tup

theorem ownsRow_base [Arn] {w : World} {B B' : Nat} {e : TypeId} {sz : Nat} {v : Value} {n : Nat} {xs : List Value} (h : w.ownsRow B' e sz v n xs) (hb : B ≤ B') : w.ownsRow B e sz v n xs := by
  refine ⟨h.1, h.2.imp id ?_⟩
  rintro ⟨g, cap, cur, h1, h2, h3⟩
  exact ⟨g, cap, cur, h1, Nat.le_trans hb h2, h3⟩

open Classical in
theorem RelG.called [Arn] (h : RelG B ρ α a bs w g) {sig : Sig} {rs : List D} {v : Value} {w' : World} {p' : PF} {us cs : List Value} (hr : Returned sig w g.p rs v w' p' us cs) (had : p'.ad = g.p.ad) {nt : Nat}
    (hf : ∀ k, nt ≤ k → k < nt + nOwn (outL sig) → ¬ α.known k) {nb : Nat} {δ : Δ} (hd : δ.newb = none ∧ δ.setb = none ∧ δ.kill = none ∧ δ.dst = none ∧ δ.nt = nOwn (outL sig) ∧ δ.dy = [] ∧ δ.dr = []) :
    ∃ g', RelG B ρ (α.upd δ nb nt) a bs w' g' ∧ g'.p = p' ∧
      (∀ j v e sz, (ownList (outL sig) cs)[j]? = some (v, e, sz) → (α.upd δ nb nt).known (nt + j) ∧ g'.T (nt + j) = v ∧ g'.te (nt + j) = e ∧ g'.tw (nt + j) = sz) := by
  obtain ⟨d1, d2, d3, d4, d5, d6, d7⟩ := hd; have hdn : ∀ k, (α.upd δ nb nt).dyn k = α.dyn k := fun k => by simp only [AS.upd, d6]; rfl
  have hcl : cs.length = (outL sig).length := by have := hr.rep.len; rw [← this, ← List.length_map (f := (·.t)), hr.tys, List.length_map]
  have hol := ownList_len (outL sig) cs hcl
  let L := ownList (outL sig) cs
  let g' : G := { g with
    p := p'
    T := fun k => if nt ≤ k then ((L[k - nt]?).map (·.1)).getD (g.T k) else g.T k
    te := fun k => if nt ≤ k then ((L[k - nt]?).map (·.2.1)).getD (g.te k) else g.te k
    tw := fun k => if nt ≤ k then ((L[k - nt]?).map (·.2.2)).getD (g.tw k) else g.tw k
    ow := fun b => if hx : ∃ (j : Nat) (x : Value × TypeId × Nat), L[j]? = some x ∧ x.1.ownBlock = some b then some (.tok (nt + hx.choose)) else g.ow b }
  have hB : B.B0 ≤ w.heap.size := Nat.le_trans h.hB h.bel.size
  have htok : ∀ j v e sz, L[j]? = some (v, e, sz) → g'.T (nt + j) = v ∧ g'.te (nt + j) = e ∧ g'.tw (nt + j) = sz := by
    intro j v e sz hj; simp only [g', Nat.le_add_right, if_true, Nat.add_sub_cancel_left, hj]; exact ⟨rfl, rfl, rfl⟩
  have hold : ∀ k, α.known k → g'.T k = g.T k ∧ g'.te k = g.te k ∧ g'.tw k = g.tw k := by
    intro k hk; by_cases hle : nt ≤ k
    · have : L[k - nt]? = none := by
        rw [List.getElem?_eq_none_iff]; rcases Nat.lt_or_ge k (nt + nOwn (outL sig)) with h1 | h1
        · exact absurd hk (hf k hle h1)
        · show (ownList (outL sig) cs).length ≤ k - nt
          omega
      simp [g', this]
    · simp [g', hle]
  have hlt : ∀ (j : Nat) (x : Value × TypeId × Nat) (b : Nat), L[j]? = some x → x.1.ownBlock = some b → w.heap.size ≤ b ∧ b < w'.heap.size := by
    rintro j ⟨v, e, sz⟩ b hj hb
    obtain ⟨n, xs, h1, _⟩ := hr.own.own j v e sz hj; exact ⟨(h1.lt b hb).1, (h1.lt b hb).2⟩
  have hlt2 : ∀ (j : Nat) (x : Value × TypeId × Nat) (b : Nat), L[j]? = some x → x.1.ownBlock = some b → b < w'.heap.size := fun j x b h1 h2 => (hlt j x b h1 h2).2
  have how : ∀ b, b < w.heap.size → g'.ow b = g.ow b := by
    intro b hb; have : ¬ ∃ (j : Nat) (x : Value × TypeId × Nat), L[j]? = some x ∧ x.1.ownBlock = some b := by
      rintro ⟨j, x, h1, h2⟩
      have := (hlt j x b h1 h2).1; omega
    simp only [g', dif_neg this]
  have hgr : w.grownBy w' none := ⟨hr.bel.os, hr.bel.tape, hr.bel.output, hr.bel.size, fun k hk _ => hr.bel.block k hk⟩
  have hl : LeC ρ α g w ρ (α.upd δ nb nt) g' w' := by
    refine ⟨fun _ _ h => h, fun β row hb => ⟨⟨row, by simp only [AS.upd, d1, d2]; exact hb⟩, rfl⟩, fun k hk => ⟨.inl hk, hold k hk⟩, fun b o hp => ?_, fun k j b hk => by show p'.ad k j b; rw [had]; exact hk⟩
    have hlt := h.pwf b o hp
    exact ⟨(hr.old b o hlt).2 hp, World.cell?_of_block (hr.bel.block b hlt)⟩
  refine ⟨g', h.world hl rfl (by simp only [AS.upd, d4]; funext i; simp) rfl ?_ ?_ hr.wf (h.bel.trans (hr.bel.mono hB)) (fun k x hx => .inl (h.dk k x (by rw [← hdn]; exact hx))) (by funext k; simp only [AS.upd, d7]; rfl) rfl had
    (fun b hb _ => ⟨hr.bel.block b hb, fun o => hr.old b o hb⟩) (fun b r hb => ?_) (fun b r hb _ => ?_), rfl, fun j v e sz hj => ⟨?_, htok j v e sz hj⟩⟩
  · intro β row hb; have hb' : α.box β = some row := by simpa only [AS.upd, d1, d2] using hb
    have hbo := h.box β row hb'
    obtain ⟨cs', el', h4, _⟩ := hbo.cells; have hlt := block_lt h4
    exact RelG.BoxOk_mono hl hbo rfl (how _ hlt) (fun o hp => hbo.np o ((hr.old _ o hlt).1 hp)) (hr.bel.block _ hlt)
  · intro k hk; rcases hk with ⟨hk, _⟩ | ⟨h1, h2⟩
    · obtain ⟨h1, n, xs, h2, h3, hdy⟩ := h.live k hk; obtain ⟨e1, e2, e3⟩ := hold k h1; refine ⟨.inl h1, n, xs, ?_, ?_, ?_⟩
      rotate_left 2
      · refine hdy.mono hl.mem hl.ad (fun _ _ h => h) (fun x hx => by rw [← hdn]; exact hx) e1 e2 e3 (fun b hb hno o hp => hno o ?_)
        exact (hr.old b o (h2.lt b hb).2).1 hp
      · rw [e1, e2, e3]; exact h2.kept hgr (by cases hb : (g.T k).ownBlock <;> simp)
      · rw [e1, e3]; intro b hb; obtain ⟨h4, h5⟩ := h3 b hb; have hlt := (h2.lt b hb).2
        exact ⟨(how b hlt).trans h4, fun o ho hp => h5 o ho ((hr.old b o hlt).1 hp)⟩
    · rw [d5] at h2; have hjl : k - nt < L.length := by show k - nt < (ownList (outL sig) cs).length; omega
      obtain ⟨⟨v, e, sz⟩, hj⟩ : ∃ x, L[k - nt]? = some x := ⟨_, List.getElem?_eq_getElem hjl⟩
      obtain ⟨e1, e2, e3⟩ := htok _ _ _ _ hj; rw [show nt + (k - nt) = k by omega] at e1 e2 e3; obtain ⟨n, xs, h3, h4⟩ := hr.own.own _ _ _ _ hj; refine ⟨.inr ⟨h1, by rw [d5]; exact h2⟩, n, xs, by rw [e1, e2, e3]; exact ownsRow_base h3 hB, ?_, fun x hx => ?_⟩
      rotate_left 1
      · rw [hdn] at hx; exact absurd (h.dk k x hx) (hf k h1 h2)
      rw [e1, e3]; intro b hb; refine ⟨?_, h4 b hb⟩
      have hx : ∃ (j : Nat) (x : Value × TypeId × Nat), L[j]? = some x ∧ x.1.ownBlock = some b := ⟨_, _, hj, hb⟩
      simp only [g', dif_pos hx, oi, Res.tok.injEq]; obtain ⟨x, hx1, hx2⟩ := hx.choose_spec; have := hr.own.dis _ _ _ _ b hx1 hj hx2 hb
      omega
  · by_cases hlt : b < w.heap.size
    · rw [how b hlt] at hb; exact ⟨Nat.lt_of_lt_of_le hlt hr.bel.size, .inl ⟨r, hb⟩⟩
    · refine ⟨?_, .inr (by omega)⟩
      simp only [g'] at hb; split at hb
      · rename_i hx; obtain ⟨x, hx1, hx2⟩ := hx.choose_spec; exact (hlt2 _ _ _ hx1 hx2)
      · exact absurd (h.hl.owb b r hb) hlt
  · have hlt := h.hl.owb b r hb
    exact ⟨(how b hlt).trans hb, hr.bel.block b hlt, fun o hp => (hr.old b o hlt).1 hp⟩
  · refine .inr ⟨Nat.le_add_right _ _, ?_⟩
    have := (List.getElem?_eq_some_iff.1 hj).1
    rw [d5]; omega
end
end Go.Proofs.Ytmglkddddpipgaa.Sx

namespace Go.Proofs.Ytmglkddddpipgaa.Sx
open Go.RowKit

theorem FRep.len [Arn] {t : Ty} {vs : List Value} {x : t.den} (h : FRep t vs x) : vs.length = t.width :=
  Rep.len (p := ⟨fun _ _ => False, fun _ _ _ => False⟩) (w := default) t vs x (h.rep)

theorem FRep.one [Arn] {t : Ty} {vs : List Value} {x : t.den} (h : FRep t vs x) : ∀ v ∈ vs, v.oneCell' = true :=
  Rep.one (p := ⟨fun _ _ => False, fun _ _ _ => False⟩) (w := default) t vs x (h.rep)

theorem Flats.len [Arn] {p : PF} {w : World} {t : Ty} : ∀ {xs : List Value} {ys : List t.den}, Flats p w t xs ys → xs.length = ys.length * t.width
  | xs, [], h => by simp only [Flats] at h; subst h; simp
  | xs, y :: ys, h => by
    obtain ⟨c, r, rfl, h1, h2⟩ := h; simp [Rep.len _ _ _ h1, Flats.len h2, Nat.add_mul]; omega

theorem Flats.get [Arn] {p : PF} {w : World} {t : Ty} : ∀ {xs : List Value} {ys : List t.den}, Flats p w t xs ys → ∀ i y, ys[i]? = some y → Rep p w t ((xs.drop (i * t.width)).take t.width) y
  | xs, [], h, i, y, hy => by simp at hy
  | xs, z :: ys, h, i, y, hy => by
    obtain ⟨c, r, rfl, h1, h2⟩ := h; have hc := Rep.len _ _ _ h1
    cases i with
    | zero =>
      simp only [List.getElem?_cons_zero, oi] at hy; subst hy; simp only [Nat.zero_mul, List.drop_zero, List.take_left' hc]; exact h1
    | succ i =>
      have := Flats.get h2 i y (by simpa using hy)
      have e : (i + 1) * t.width = c.length + i * t.width := by rw [hc, Nat.add_mul]; omega
      rw [e, List.drop_append_of_le_length_left]; exact this
where
  List.drop_append_of_le_length_left {c r : List Value} {n : Nat} : (c ++ r).drop (c.length + n) = r.drop n := by simp

theorem Flats.of [Arn] {p : PF} {w : World} {t : Ty} : ∀ {ys : List t.den} {xs : List Value}, xs.length = ys.length * t.width → (∀ i y, ys[i]? = some y → Rep p w t ((xs.drop (i * t.width)).take t.width) y) → Flats p w t xs ys
  | [], xs, h, _ => by simpa [Flats] using h
  | y :: ys, xs, h, hg => by
    have h0 := hg 0 y rfl
    simp only [Nat.zero_mul, List.drop_zero] at h0; simp only [List.length_cons, Nat.add_mul, Nat.one_mul] at h; refine ⟨xs.take t.width, xs.drop t.width, (List.take_append_drop _ _).symm, h0, Flats.of (by simp; omega) fun i z hz => ?_⟩
    have := hg (i + 1) z (by simpa using hz)
    rw [List.drop_drop, show t.width + i * t.width = (i + 1) * t.width by rw [Nat.add_mul]; omega]
    exact this

theorem Flats.take [Arn] {p : PF} {w : World} {t : Ty} {xs : List Value} {ys : List t.den} (h : Flats p w t xs ys) (n : Nat) (hn : n ≤ ys.length) : Flats p w t (xs.take (n * t.width)) (ys.take n) := by
  have hl := h.len
  have hle : n * t.width ≤ ys.length * t.width := Nat.mul_le_mul_right _ hn
  refine Flats.of (by rw [List.length_take, List.length_take, Nat.min_eq_left hn]; omega) fun i y hy => ?_
  rw [List.getElem?_take] at hy; split at hy
  · rename_i hi; have := h.get i y hy
    have h2 : (i + 1) * t.width ≤ n * t.width := Nat.mul_le_mul_right _ hi
    rw [Nat.add_mul] at h2; rw [List.drop_take, List.take_take, show min t.width (n * t.width - i * t.width) = t.width by omega]; exact this
  · cases hy

theorem Flats.set [Arn] {p : PF} {w : World} {t : Ty} {xs : List Value} {ys : List t.den} (h : Flats p w t xs ys) {i : Nat} {y : t.den} {c : List Value} (hi : i < ys.length) (hc : Rep p w t c y) :
    Flats p w t (setAt xs (i * t.width) c) (ys.set i y) := by
  have hl := h.len
  have hcl := Rep.len _ _ _ hc
  have hle : (i + 1) * t.width ≤ ys.length * t.width := Nat.mul_le_mul_right _ hi
  rw [Nat.add_mul] at hle; have hlen : (setAt xs (i * t.width) c).length = xs.length := by simp [setAt, hcl]; omega
  refine Flats.of (by rw [hlen, hl]; simp) fun j z hz => ?_
  rw [List.getElem?_set] at hz; by_cases e : i = j
  · subst e; simp only [if_true, hi, oi] at hz; subst hz; have : ((setAt xs (i * t.width) c).drop (i * t.width)).take t.width = c := by
      have e1 : (xs.take (i * t.width)).length = i * t.width := by simp; omega
      rw [setAt, List.drop_left' e1, List.take_left' hcl]
    rw [this]; exact hc
  · rw [if_neg e] at hz; have := h.get j z hz
    have hj : j < ys.length := (List.getElem?_eq_some_iff.1 hz).1
    have : ((setAt xs (i * t.width) c).drop (j * t.width)).take t.width = (xs.drop (j * t.width)).take t.width := by
      apply List.ext_getElem?
      intro q; rw [List.getElem?_take, List.getElem?_take]; split
      · rename_i hq; rw [List.getElem?_drop, List.getElem?_drop, setAt]; rcases Nat.lt_or_ge j i with hji | hji
        · have h2 : (j + 1) * t.width ≤ i * t.width := Nat.mul_le_mul_right _ hji
          rw [Nat.add_mul] at h2; rw [List.getElem?_append_left (by simp; omega), List.getElem?_take, if_pos (by omega)]
        · have h2 : (i + 1) * t.width ≤ j * t.width := Nat.mul_le_mul_right _ (by omega)
          rw [Nat.add_mul] at h2; rw [List.getElem?_append_right (by simp; omega), List.getElem?_append_right (by simp; omega), List.getElem?_drop]
          congr 1
          simp
          omega
      · rfl
    rw [this]; assumption

theorem Flats.any [Arn] {p p' : PF} {w w' : World} {t : Ty} (hf : t.flat = true) : ∀ {xs : List Value} {ys : List t.den}, Flats p w t xs ys → Flats p' w' t xs ys
  | _, [], h => h
  | _, _ :: _, ⟨c, r, h1, h2, h3⟩ => ⟨c, r, h1, (Rep.frep _ _ _ hf h2).rep, Flats.any hf h3⟩

section
variable {P : Program} {B : Base} {ρ : List D} {st : SS} {o : Oper} {α : AS} {a : Act} {bs : List Act} {w : World} {g : G} {Φ : Nat → Cont}

def dynAS (α : AS) (kill : Option Nat) (k : Nat) (x : Nat × Ty × TypeId) : AS :=
  { α with known := fun j => α.known j ∨ j = k, live := fun j => (α.live j ∧ kill ≠ some j) ∨ j = k, dyn := fun j => if j = k then some x else if kill = some j then none else α.dyn j }

theorem RelG.newDyn [Arn] (h : RelG B ρ α a bs w g) {w' : World} {kill : Option Nat} {k i n' : Nat} {v' : Value} {e : TypeId} {t : Ty} {xs' : List Value} {ys : List t.den}
    (hf : ¬ α.known k) (hg : w.grownBy w' none)
    (hv : (kill = none ∧ ∀ b, v'.ownBlock = some b → w.heap.size ≤ b) ∨ (∃ j, kill = some j ∧ α.live j ∧ v'.ownBlock = (g.T j).ownBlock ∧ ∃ x, α.dyn j = some x))
    (ho' : w'.ownsRow B.B0 e t.width v' n' xs') (hn : nth ρ i = some ⟨.sl t, ys⟩) (hl : ys.length = n') (hfl : Flats g.p w t xs' ys) :
    ∃ g', RelG B ρ (dynAS α kill k (i, t, e)) a bs w' g' ∧ LeC ρ α g w ρ (dynAS α kill k (i, t, e)) g' w' ∧ g'.T k = v' := by
  let g' : G := { g with
    T := fun j => if j = k then v' else g.T j
    te := fun j => if j = k then e else g.te j
    tw := fun j => if j = k then t.width else g.tw j
    ow := fun b => if v'.ownBlock = some b then some (.tok k) else g.ow b }
  have hB : B.B0 ≤ w.heap.size := Nat.le_trans h.hB h.bel.size
  have hblk : ∀ b, v'.ownBlock = some b → (w.heap.size ≤ b ∨ ∃ j, kill = some j ∧ g.ow b = some (.tok j)) ∧ ∀ o, ¬ g.p b o := by
    intro b hb; rcases hv with ⟨_, h1⟩ | ⟨j, hj, hlive, hT, x, hx⟩
    · have := h1 b hb
      exact ⟨.inl this, fun o hp => by have := h.pwf b o hp; omega⟩
    · obtain ⟨_, n1, xs1, h2, h3, h4⟩ := h.live j hlive; rw [hT] at hb; exact ⟨.inr ⟨j, hj, (h3 b hb).1⟩, (h4 x hx).2 b hb⟩
  have hcell : ∀ b o, g.p b o → w'.cell? ⟨b, o, none⟩ = w.cell? ⟨b, o, none⟩ := fun b o hp => World.cell?_of_block (hg.block b (h.pwf b o hp) (by simp))
  have hle : LeC ρ α g w ρ (dynAS α kill k (i, t, e)) g' w' := by
    refine ⟨fun _ _ h => h, fun β row hb => ⟨⟨row, hb⟩, rfl⟩, fun j hj => ?_, fun b o hp => ⟨hp, hcell b o hp⟩, fun _ _ _ h => h⟩
    have hne : j ≠ k := fun e => hf (e ▸ hj)
    exact ⟨.inl hj, by simp [g', hne], by simp [g', hne], by simp [g', hne]⟩
  have hother : ∀ b r, g.ow b = some r → b < w.heap.size → (∀ j, kill = some j → r ≠ .tok j) → v'.ownBlock ≠ some b := by
    intro b r hr hlt hrk hvb; rcases (hblk b hvb).1 with h1 | ⟨j, hj, h1⟩
    · omega
    · rw [hr] at h1; exact hrk j hj (by simpa using h1)
  have hobj : ∀ b r, g.ow b = some r → r.isObj → g'.ow b = some r ∧ w'.heap[b]? = w.heap[b]? ∧ ∀ o, g'.p b o → g.p b o := fun b r hr ho => by
    have hlt := h.hl.owb b r hr
    have h2 := hother b r hr hlt (fun j _ e => by subst e; exact ho)
    exact ⟨by simp only [g', if_neg h2]; exact hr, hg.block b hlt (by simp), fun _ h => h⟩
  refine ⟨g', h.world hle rfl rfl rfl ?_ ?_ ?_ (h.bel.grown hg hB (by simp)) ?_ rfl rfl rfl (fun b hlt _ => ⟨hg.block b hlt (by simp), fun _ => Iff.rfl⟩) (fun b r hr => ?_) hobj, hle, by simp [g']⟩
  rotate_right 1
  · simp only [g'] at hr; split at hr
    · rename_i e; refine ⟨(ho'.lt b e).2, ?_⟩
      rcases (hblk b e).1 with h1 | ⟨j, _, h1⟩
      · exact .inr h1
      · exact .inl ⟨_, h1⟩
    · exact ⟨Nat.lt_of_lt_of_le (h.hl.owb b r hr) hg.size, .inl ⟨r, hr⟩⟩
  · intro β row hb; have hbo := h.box β row hb
    obtain ⟨cs, el, h4, _⟩ := hbo.cells; have h6 := hother _ _ hbo.ow (block_lt h4) (fun _ _ => by simp)
    refine RelG.BoxOk_mono hle hbo rfl ?_ hbo.np (hg.block _ (block_lt h4) (by simp))
    simp [g', h6]
  · rintro j (⟨hj, hkill⟩ | rfl)
    · obtain ⟨h1, n1, xs1, h2, h3, hdy⟩ := h.live j hj; have hne : j ≠ k := fun e => hf (e ▸ h1)
      have hdis : ∀ b, (g.T j).ownBlock = some b → v'.ownBlock ≠ some b := fun b hb =>
        hother b _ (h3 b hb).1 (h2.lt b hb).2 (fun j' hj' => by simp only [ne_eq, Res.tok.injEq]; rintro rfl; exact hkill hj')
      refine ⟨.inl h1, n1, xs1, ?_, ?_, ?_⟩
      · simp only [g', if_neg hne]; exact h2.kept hg (by cases (g.T j).ownBlock <;> simp)
      · simp only [g', if_neg hne]; intro b hb; obtain ⟨h4, h5⟩ := h3 b hb; exact ⟨by rw [if_neg (hdis b hb)]; exact h4, h5⟩
      · refine hdy.mono hle.mem hle.ad (fun _ _ h => h) (fun x hx => ?_) (by simp only [g', if_neg hne]) (by simp only [g', if_neg hne]) (by simp only [g', if_neg hne]) (fun _ _ h => h)
        simpa only [dynAS, if_neg hne, if_neg hkill] using hx
    · refine ⟨.inr rfl, n', xs', by simpa [g'] using ho', ?_, fun x hx => ?_⟩
      · simp only [g', if_true]; intro b hb; exact ⟨by rw [if_pos hb], fun o _ => (hblk b hb).2 o⟩
      · simp only [dynAS, if_true, oi] at hx; subst hx; simp only [g', if_true]; exact ⟨⟨rfl, rfl, ys, hn, hl, hfl.mono hle.mem hle.ad⟩, fun b hb => (hblk b hb).2⟩
  · intro b o hp; exact Nat.lt_of_lt_of_le (h.pwf b o hp) hg.size
  · intro j x hx; simp only [dynAS] at hx ⊢; split at hx
    · rename_i e; exact .inr e
    · split at hx
      · cases hx
      · exact .inl (h.dk j x hx)

def setDynAS (α : AS) (k : Nat) (x : Nat × Ty × TypeId) : AS := { α with dyn := fun j => if j = k then some x else α.dyn j }

theorem RelG.setDyn [Arn] (h : RelG B ρ α a bs w g) {w' : World} {k i i0 n : Nat} {e : TypeId} {t : Ty} {xs' : List Value} {ys : List t.den}
    (hk : α.live k) (hd : α.dyn k = some (i0, t, e)) (hg : w.grownBy w' (g.T k).ownBlock) (ho' : w'.ownsRow B.B0 e t.width (g.T k) n xs')
    (hn : nth ρ i = some ⟨.sl t, ys⟩) (hl : ys.length = n) (hfl : Flats g.p w t xs' ys) : RelG B ρ (setDynAS α k (i, t, e)) a bs w' g := by
  have hB : B.B0 ≤ w.heap.size := Nat.le_trans h.hB h.bel.size
  obtain ⟨hkn, n1, xs1, h2, h3, h4⟩ := h.live k hk; obtain ⟨⟨hte, htw, _⟩, hnp⟩ := h4 _ hd; have hcell : ∀ b o, g.p b o → w'.cell? ⟨b, o, none⟩ = w.cell? ⟨b, o, none⟩ := fun b o hp => by
    refine World.cell?_of_block (hg.block b (h.pwf b o hp) fun e => ?_)
    exact hnp b e.symm o hp
  have hle : LeC ρ α g w ρ (setDynAS α k (i, t, e)) g w' :=
    ⟨fun _ _ h => h, fun β row hb => ⟨⟨row, hb⟩, rfl⟩, fun j hj => ⟨hj, rfl, rfl, rfl⟩, fun b o hp => ⟨hp, hcell b o hp⟩, fun _ _ _ h => h⟩
  have hne : ∀ b r, g.ow b = some r → r ≠ .tok k → some b ≠ (g.T k).ownBlock := fun b r hr hn e => by
    have := (h3 b e.symm).1
    rw [hr] at this; exact hn (by simpa using this)
  refine h.world hle rfl rfl rfl ?_ ?_ ?_ (h.bel.grown hg hB fun b hb => (h2.lt b hb).1) ?_ rfl rfl rfl (fun b hlt hno => ⟨hg.block b hlt (fun e => hno _ (h3 b e.symm).1), fun _ => Iff.rfl⟩)
    (fun b r hr => ⟨Nat.lt_of_lt_of_le (h.hl.owb b r hr) hg.size, .inl ⟨r, hr⟩⟩) (fun b r hr ho => ⟨hr, hg.block b (h.hl.owb b r hr) (hne b r hr (fun e => by subst e; exact ho)), fun _ h => h⟩)
  · intro β row hb; have hbo := h.box β row hb
    obtain ⟨cs, el, h5, _⟩ := hbo.cells; refine RelG.BoxOk_mono hle hbo rfl rfl hbo.np (hg.block _ (block_lt h5) fun e => ?_)
    have := (h3 _ e.symm).1
    rw [hbo.ow] at this; cases this
  · intro j hj; by_cases e : j = k
    · subst e; refine ⟨hkn, n, xs', by rw [hte, htw]; exact ho', fun b hb => ⟨(h3 b hb).1, fun o _ => hnp b hb o⟩, fun x hx => ?_⟩
      simp only [setDynAS, if_true, oi] at hx; subst hx; exact ⟨⟨hte, htw, ys, hn, hl, hfl.mono hle.mem hle.ad⟩, hnp⟩
    · obtain ⟨h5, n2, xs2, h6, h7, h8⟩ := h.live j hj; refine ⟨h5, n2, xs2, h6.kept hg ?_, h7, h8.mono hle.mem hle.ad (fun _ _ h => h) (fun x hx => ?_) rfl rfl rfl (fun _ _ h => h)⟩
      · cases hb : (g.T j).ownBlock with
        | none => exact .inl rfl
        | some b =>
          refine .inr fun e2 => ?_
          have h9 := (h7 b hb).1
          rw [(h3 b e2.symm).1] at h9; exact e (by simpa using h9.symm)
      · simpa only [setDynAS, if_neg e] using hx
  · intro b o hp; exact Nat.lt_of_lt_of_le (h.pwf b o hp) hg.size
  · intro j x hx; simp only [setDynAS] at hx; split at hx
    · rename_i e; subst e; exact hkn
    · exact h.dk j x hx

def frzAS (α : AS) (k i : Nat) (t : Ty) (e : TypeId) : AS :=
  { α with slot := fun j => (α.slot j).frz k i t e, box := fun β => (α.box β).map (List.map (SC.frz k i t e)), saved := α.saved.map fun q => (q.1, fun j => (q.2 j).frz k i t e),
           dyn := fun j => if j = k then none else α.dyn j }

theorem Flats.rep [Arn] {p : PF} {t : Ty} {xs : List Value} {ys : List t.den} {b n cap : Nat} (h : Flats p w t xs ys) (hl : ys.length = n) (h1 : n ≤ cap) (h2 : cap ≤ maxLen)
    (hc : ∀ j u, xs[j]? = some u → p b j ∧ w.cell? ⟨b, j, none⟩ = some u) : Rep p w (.sl t) [.slice (some ⟨b, 0, none⟩) n cap] ys := by
  subst hl; refine .inr (.inl ⟨b, 0, cap, rfl, h1, h2, fun i y hy => ⟨_, fun j u hu => ?_, h.get i y hy⟩⟩)
  rw [Nat.zero_add]; rw [List.getElem?_take] at hu; split at hu
  · rw [List.getElem?_drop] at hu; exact hc _ _ hu
  · cases hu

theorem SC.frz_all2 [Arn] {R R' : SC → Value → Prop} {f : SC → SC} (h : ∀ c v, R c v → R' (f c) v) {cs : List SC} {vs : List Value} (ha : All2 R cs vs) : All2 R' (cs.map f) vs := by
  induction ha with
  | nil => exact .nil
  | cons h1 _ ih => exact .cons (h _ _ h1) ih

theorem RelG.frz [Arn] (h : RelG B ρ α a bs w g) {k i : Nat} {e : TypeId} {t : Ty} (hk : α.live k) (hd : α.dyn k = some (i, t, e)) :
    ∃ g', RelG B ρ (frzAS α k i t e) a bs w g' := by
  obtain ⟨hkn, n, xs, h2, h3, h4⟩ := h.live k hk; obtain ⟨⟨hte, htw, ys, hn, hl, hfl⟩, hnp⟩ := h4 _ hd; simp only at hte htw ys hn hl hfl
  let g' : G := { g with p := g.p.more fun b o => (g.T k).ownBlock = some b ∧ o < n * g.tw k }
  have hbox : ∀ β row, α.box β = some row → (∃ row', (frzAS α k i t e).box β = some row') ∧ g'.θ β = g.θ β := fun β row hb => ⟨⟨_, by simp [frzAS, hb]; rfl⟩, rfl⟩
  have hle : LeC ρ α g w ρ (frzAS α k i t e) g' w := ⟨fun _ _ h => h, hbox, fun j hj => ⟨hj, rfl, rfl, rfl⟩, fun b o hp => ⟨.inl hp, rfl⟩, fun _ _ _ h => h⟩
  have hrep : Rep g'.p w (.sl t) [g.T k] ys := by
    rcases h2.2 with ⟨hv, h0⟩ | ⟨gb, cap, cur, hv, hb0, hg0, hnc, hcm, _⟩
    · rw [hv]; exact .inl ⟨rfl, List.eq_nil_of_length_eq_zero (by omega)⟩
    · have hv' := hv
      rw [hv'] at h2; rw [hv']; refine (hfl.mono (p' := g'.p) hle.mem hle.ad).rep hl hnc hcm fun j u hu => ?_
      have hlt : j < n * g.tw k := by rw [← h2.1]; exact (List.getElem?_eq_some_iff.1 hu).1
      exact ⟨.inr ⟨by rw [hv]; rfl, hlt⟩, by rw [h2.cellAt j hlt]; exact hu⟩
  have hsc : ∀ c v, SCRep ρ α g w c v → SCRep ρ (frzAS α k i t e) g' w (c.frz k i t e) v := by
    intro c v hc; cases c with
    | dsl k' =>
      obtain ⟨h5, h6, h7⟩ := hc; simp only [SC.frz]; cases hb : Nat.beq k' k with
      | true =>
        have := Nat.eq_of_beq_eq_true hb
        subst this; exact ⟨ys, hn, by rw [h6]; exact hrep, hkn, h6, hte, htw⟩
      | false => exact ⟨h5, h6, h7⟩
    | _ => exact SCRep.mono hle hc
  have hsv : ∀ s v, SVRep ρ α g w s v → SVRep ρ (frzAS α k i t e) g' w (s.frz k i t e) v := by
    intro s v hs; cases s with
    | unk => trivial
    | dead => exact hs
    | one c => exact hsc c v hs
    | agg cs => obtain ⟨vs, h5, h6⟩ := hs; exact ⟨vs, h5, SC.frz_all2 hsc h6⟩
    | tup ps =>
      obtain ⟨us, h5, h6⟩ := hs; refine ⟨us, h5, ?_⟩
      clear h5; generalize us.toList = ul at h6 ⊢
      induction h6 with
      | nil => exact .nil
      | cons h7 _ ih =>
        refine .cons ?_ ih
        rcases h7 with ⟨h8, vs, h9, h10⟩ | ⟨h8, c, h9, h10⟩
        · exact .inl ⟨h8, vs, h9, SC.frz_all2 hsc h10⟩
        · exact .inr ⟨h8, c.frz k i t e, by simp [h9], hsc _ _ h10⟩
  have hown : ∀ b r, g.ow b = some r → r ≠ .tok k → (g.T k).ownBlock ≠ some b := by
    intro b r hr hne hb; have := (h3 b hb).1
    rw [hr] at this; exact hne (by simpa using this)
  refine ⟨g', { nodef := h.nodef, sz := h.sz, slot := fun j => hsv _ _ (h.slot j), saved := ?_, box := ?_, live := ?_, pwf := ?_, bel := h.bel, hB := h.hB, dk := ?_, hl := ?_ }⟩
  · have key : ∀ (sv : List (Nat × (Nat → SV))) (l : List Act), All2 (fun (q : Nat × (Nat → SV)) (b : Act) => b.defers = [] ∧ b.tmps.size = q.1 ∧ ∀ i, SVRep ρ α g w (q.2 i) (b.tmps.getD i undef)) sv l →
        All2 (fun (q : Nat × (Nat → SV)) (b : Act) => b.defers = [] ∧ b.tmps.size = q.1 ∧ ∀ i', SVRep ρ (frzAS α k i t e) g' w (q.2 i') (b.tmps.getD i' undef)) (sv.map fun q => (q.1, fun j => (q.2 j).frz k i t e)) l := by
      intro sv l hh; induction hh with
      | nil => exact .nil
      | cons h5 _ ih => exact .cons ⟨h5.1, h5.2.1, fun j => hsv _ _ (h5.2.2 j)⟩ ih
    exact key _ _ h.saved
  · intro β row hb; simp only [frzAS, Option.map_eq_some_iff] at hb; obtain ⟨row0, hb0, rfl⟩ := hb; obtain ⟨h5, h6, h7, cs, el, h8, h9⟩ := h.box β row0 hb0; refine ⟨h5, h6, ?_, cs, el, h8, SC.frz_all2 hsc h9⟩
    rintro o (hp | ⟨hp, _⟩)
    · exact h7 o hp
    · exact hown _ _ h6 (by simp) hp
  · intro j hj; obtain ⟨h5, n', xs', h6, h7, h8⟩ := h.live j hj; refine ⟨h5, n', xs', h6, fun b hb => ⟨(h7 b hb).1, ?_⟩, fun x hx => ?_⟩
    · rintro o ho (hp | ⟨hp, hlt⟩)
      · exact (h7 b hb).2 o ho hp
      · have e1 := (h3 b hp).1
        rw [(h7 b hb).1] at e1; simp only [oi, Res.tok.injEq] at e1; subst e1; have : n' = n := by
          have e3 : n' * g.tw j ≤ n * g.tw j := Nat.le_trans ho (Nat.le_of_lt hlt)
          rcases h6.2 with ⟨e1, _⟩ | ⟨_, _, _, e1, _⟩
          · rw [e1] at hb; cases hb
          · rcases h2.2 with ⟨e2, _⟩ | ⟨_, _, _, e2, _⟩
            · rw [e2] at hb; cases hb
            · rw [e1] at e2; simp only [Value.slice.injEq] at e2; exact e2.2.1
        subst this; have ho' : n' * g.tw j ≤ o := ho
        omega
    · simp only [frzAS] at hx; split at hx
      · cases hx
      · rename_i hne; obtain ⟨h9, h10⟩ := h8 x hx; refine ⟨h9.mono hle.mem hle.ad fun _ _ h => h, fun b hb => ?_⟩
        rintro o (hp | ⟨hp, _⟩)
        · exact h10 b hb o hp
        · exact hown b _ (h7 b hb).1 (by simpa using hne) hp
  · rintro b o (hp | ⟨hp, _⟩)
    · exact h.pwf b o hp
    · exact (h2.lt b hp).2
  · intro j x hx; simp only [frzAS] at hx; split at hx
    · cases hx
    · exact h.dk j x hx
  · refine h.hl.mono h.bel.size hle rfl rfl rfl (fun b _ hno => ⟨rfl, fun o => ⟨fun hp => hp.elim id fun hp => absurd (h3 b hp.1).1 (hno _), .inl⟩⟩) (fun b r hr => ⟨h.hl.owb b r hr, .inl ⟨r, hr⟩⟩)
      (fun b r hr ho => ⟨hr, rfl, fun o hp => hp.elim id fun hp => absurd hp.1 (hown b r hr (fun e => by subst e; exact ho))⟩)
end
end Go.Proofs.Ytmglkddddpipgaa.Sx

namespace Go.Proofs.Ytmglkddddpipgaa.Sx
open Go.RowKit

section
variable {B : Base} {ρ : List D} {α : AS} {a : Act} {bs : List Act} {w : World} {g : G}

def renAS (α : AS) (β β' : Nat) (bx : Nat → Option (List SC)) : AS :=
  { α with slot := fun j => (α.slot j).ren β β', box := bx, saved := α.saved.map fun q => (q.1, fun j => (q.2 j).ren β β') }

theorem renL_all2 [Arn] {R R' : SC → Value → Prop} {β β' : Nat} (h : ∀ c c' v, c.ren β β' = some c' → R c v → R' c' v) : ∀ {cs cs' : List SC} {vs : List Value}, renL β β' cs = some cs' → All2 R cs vs → All2 R' cs' vs := by
  intro cs cs' vs hr ha; induction ha generalizing cs' with
  | nil => simp only [renL, oi] at hr; subst hr; exact .nil
  | cons h1 _ ih =>
    simp only [renL] at hr; split at hr
    · rename_i c r h2 h3; simp only [oi] at hr; subst hr; exact .cons (h _ _ _ h2 h1) (ih h3)
    · cases hr

theorem RelG.ren [Arn] (h : RelG B ρ α a bs w g) {β β' : Nat} {row row' : List SC} {bx : Nat → Option (List SC)} (hne : β ≠ β') (hβ' : α.box β' = some row) (hβ : ∃ r, α.box β = some r) (hrow : renL β β' row = some row')
    (b1 : bx β = some row') (b2 : bx β' = none) (b3 : ∀ γ r', γ ≠ β → bx γ = some r' → ∃ r, α.box γ = some r ∧ renL β β' r = some r') (b4 : ∀ γ r, γ ≠ β → γ ≠ β' → α.box γ = some r → ∃ r', bx γ = some r')
    (b5 : ∀ k xv γ, α.out k = some (xv, γ) → γ ≠ β ∧ γ ≠ β') :
    ∃ g', RelG B ρ (renAS α β β' bx) a bs w g' := by
  have hb := h.box β' row hβ'
  let g' : G := { g with θ := fun γ => if γ = β then g.θ β' else g.θ γ, ow := fun b => if b = g.θ β' then some (.box β) else g.ow b }
  have t1 : g'.θ β = g.θ β' := by simp [g']
  have t2 : ∀ γ, γ ≠ β → g'.θ γ = g.θ γ := fun γ hγ => by simp [g', hγ]
  have o1 : ∀ b r, g.ow b = some r → r ≠ .box β' → g'.ow b = some r := by
    intro b r hr hn; have : b ≠ g.θ β' := by rintro rfl; rw [hb.ow] at hr; simp only [oi] at hr; exact hn hr.symm
    simp only [g', if_neg this]; exact hr
  have hbox : ∀ γ, γ ≠ β → γ ≠ β' → (∃ r, α.box γ = some r) → ∃ r, (renAS α β β' bx).box γ = some r := fun γ h1 h2 ⟨r, hr⟩ => b4 γ r h1 h2 hr
  have hsc : ∀ c c' v, c.ren β β' = some c' → SCRep ρ α g w c v → SCRep ρ (renAS α β β' bx) g' w c' v := by
    intro c c' v hc hr; cases c with
    | adr γ o =>
      obtain ⟨h1, rfl⟩ := hr; simp only [SC.ren] at hc; split at hc
      · cases hc
      · rename_i hγ; split at hc
        · rename_i e; subst e; simp only [oi] at hc; subst hc; exact ⟨⟨row', b1⟩, by rw [t1]⟩
        · rename_i hγ'; simp only [oi] at hc; subst hc; exact ⟨hbox γ hγ hγ' h1, by rw [t2 γ hγ]⟩
    | fn f caps =>
      obtain ⟨vs, h1, h2⟩ := hr; simp only [SC.ren] at hc; split at hc
      · rename_i hall; simp only [oi] at hc; subst hc; refine ⟨vs, h1, ?_⟩
        clear h1; simp only [List.all_eq_true, Bool.and_eq_true, bne_iff_ne] at hall; generalize vs.toList = us at h2
        induction h2 with
        | nil => exact .nil
        | cons hh _ ih =>
          obtain ⟨h3, hu⟩ := hh; have h4 := hall _ List.mem_cons_self
          exact .cons ⟨hbox _ h4.1 h4.2 h3, by rw [t2 _ h4.1]; exact hu⟩ (ih fun q hq => hall q (by simp [hq]))
      · cases hc
    | lst k ps e =>
      obtain ⟨h1, h2, h3, h4, h5⟩ := hr; simp only [SC.ren] at hc; split at hc
      · rename_i hall; simp only [oi] at hc; subst hc; simp only [List.all_eq_true, Bool.and_eq_true, bne_iff_ne] at hall; refine ⟨h1, h2, h3, h4, h5.imp id ?_⟩
        rintro ⟨b, cap, e1, e2, e3, e4⟩
        refine ⟨b, cap, e1, e2, e3, fun j q hq => ?_⟩
        obtain ⟨f1, f2, f3⟩ := e4 j q hq; have h4 := hall _ (List.mem_of_getElem? hq)
        exact ⟨f1, hbox _ h4.1 h4.2 f2, by rw [t2 _ h4.1]; exact f3⟩
      · cases hc
    | pel γ off =>
      obtain ⟨h1, b, o, h2, h3, h4⟩ := hr; simp only [SC.ren] at hc; split at hc
      · cases hc
      · rename_i hγ; simp only [Bool.or_eq_true, decide_eq_true_eq, not_or] at hγ; simp only [oi] at hc; subst hc; exact ⟨hbox γ hγ.1 hγ.2 h1, b, o, h2, h3, by rw [t2 γ hγ.1]; exact h4⟩
    | a x t => simp only [SC.ren, oi] at hc; subst hc; exact hr
    | nl t e => simp only [SC.ren, oi] at hc; subst hc; exact hr
    | own i k t e => simp only [SC.ren, oi] at hc; subst hc; exact hr
    | el x i e off => simp only [SC.ren, oi] at hc; subst hc; exact hr
    | nilp => simp only [SC.ren, oi] at hc; subst hc; exact hr
    | nlp => simp only [SC.ren, oi] at hc; subst hc; exact hr
    | dsl k => simp only [SC.ren, oi] at hc; subst hc; exact hr
    | del k i off => simp only [SC.ren, oi] at hc; subst hc; exact hr
    | dvw k i => simp only [SC.ren, oi] at hc; subst hc; exact hr
    | ful i t => simp only [SC.ren, oi] at hc; subst hc; exact hr
    | nel x e off => simp only [SC.ren, oi] at hc; subst hc; exact hr
    | ptl x e off => simp only [SC.ren, oi] at hc; subst hc; exact hr
  have hsv : ∀ s v, SVRep ρ α g w s v → SVRep ρ (renAS α β β' bx) g' w (s.ren β β') v := by
    intro s v hs; cases s with
    | unk => trivial
    | dead => exact hs
    | one c =>
      simp only [SV.ren]; cases hc : c.ren β β' with
      | none => trivial
      | some c' => exact hsc _ _ _ hc hs
    | agg cs =>
      obtain ⟨vs, h5, h6⟩ := hs; simp only [SV.ren]; cases hc : renL β β' cs with
      | none => trivial
      | some cs' => exact ⟨vs, h5, renL_all2 hsc hc h6⟩
    | tup ps =>
      simp only [SV.ren]; split
      · rename_i hall; obtain ⟨us, h5, h6⟩ := hs; refine ⟨us, h5, ?_⟩
        clear h5; simp only [List.all_eq_true] at hall; generalize us.toList = ul at h6
        induction h6 with
        | nil => exact .nil
        | cons hh _ ih =>
          refine .cons ?_ (ih fun q hq => hall q (by simp [hq]))
          have h7 := hall _ List.mem_cons_self
          split at h7
          · rename_i cs hcs; simp only [beq_iff_eq] at h7; subst h7; rcases hh with ⟨h8, vs, h9, h10⟩ | ⟨h8, c, h9, h10⟩
            · exact .inl ⟨h8, vs, h9, renL_all2 hsc hcs h10⟩
            · refine .inr ⟨h8, c, h9, ?_⟩
              rw [h9] at hcs; simp only [renL] at hcs; split at hcs
              · rename_i c' r e1 e2; simp only [oi, List.cons.injEq] at hcs; obtain ⟨rfl, _⟩ := hcs; exact hsc _ _ _ e1 h10
              · cases hcs
          · cases h7
      · trivial
  refine ⟨g', { nodef := h.nodef, sz := h.sz, slot := fun i => hsv _ _ (h.slot i), saved := ?_, box := fun γ r hr => ?_, live := fun k hk => ⟨(h.live k hk).1, ?_⟩, pwf := h.pwf, bel := h.bel, hB := h.hB, dk := h.dk, hl := ?_ }⟩
  · have hs := h.saved
    have key : ∀ (sv : List (Nat × (Nat → SV))) (l : List Act), All2 (fun (q : Nat × (Nat → SV)) (b : Act) => b.defers = [] ∧ b.tmps.size = q.1 ∧ ∀ i, SVRep ρ α g w (q.2 i) (b.tmps.getD i undef)) sv l →
        All2 (fun (q : Nat × (Nat → SV)) (b : Act) => b.defers = [] ∧ b.tmps.size = q.1 ∧ ∀ i, SVRep ρ (renAS α β β' bx) g' w (q.2 i) (b.tmps.getD i undef)) (sv.map fun q => (q.1, fun j => (q.2 j).ren β β')) l := by
      intro sv l hl; induction hl with
      | nil => exact .nil
      | cons h1 _ ih => exact .cons ⟨h1.1, h1.2.1, fun i => hsv _ _ (h1.2.2 i)⟩ ih
    exact key _ _ hs
  · replace hr : bx γ = some r := hr
    by_cases e : γ = β
    · subst e; rw [b1] at hr; simp only [oi] at hr; subst hr; obtain ⟨cs, el, h4, h5⟩ := hb.cells; exact ⟨by rw [t1]; exact hb.lo, by rw [t1]; simp [g'], by rw [t1]; exact hb.np, cs, el, by rw [t1]; exact h4, renL_all2 hsc hrow h5⟩
    · obtain ⟨r0, k1, k2⟩ := b3 γ r e hr; have e' : γ ≠ β' := by rintro rfl; rw [b2] at hr; cases hr
      have hbo := h.box γ r0 k1
      obtain ⟨cs, el, h4, h5⟩ := hbo.cells; exact ⟨by rw [t2 γ e]; exact hbo.lo, by rw [t2 γ e]; exact o1 _ _ hbo.ow (by simp only [ne_eq, Res.box.injEq]; exact e'), by rw [t2 γ e]; exact hbo.np, cs, el, by rw [t2 γ e]; exact h4, renL_all2 hsc k2 h5⟩
  · obtain ⟨n, xs, h1, h2, h3⟩ := (h.live k hk).2
    exact ⟨n, xs, h1, fun b hb => ⟨o1 _ _ (h2 b hb).1 (by simp), (h2 b hb).2⟩, h3⟩
  · obtain ⟨cs, el, h4, _⟩ := hb.cells; have hbl := block_lt h4
    have hoo : ∀ b r, g'.ow b = some r → b < w.heap.size ∧ ∃ r', g.ow b = some r' := fun b r hr => by
      simp only [g'] at hr; split at hr
      · rename_i e; subst e; exact ⟨hbl, _, hb.ow⟩
      · exact ⟨h.hl.owb b r hr, r, hr⟩
    have hob : ∀ b r, g.ow b = some r → r.isObj → g'.ow b = some r := fun b r hr ho => o1 b r hr (fun e => by subst e; exact ho)
    refine { b0 := h.hl.b0, om := fun b r hr => ?_, owb := fun b r hr => (hoo b r hr).1, fr := h.hl.fr, p0m := h.hl.p0m, adm := h.hl.adm, adf := h.hl.adf, ark := h.hl.ark, ar := ?_ }
    · obtain ⟨_, r', h1⟩ := hoo b r hr; exact h.hl.om b r' h1
    · refine ⟨fun k T x hk => ?_, fun k xv γ hk => ?_⟩
      · obtain ⟨xs, h1, h2, h3⟩ := (h.hl.ar.ars k T x hk).ex
        refine ⟨xs, h1, h2, fun j y hy => ?_⟩
        obtain ⟨b, q1, q2⟩ := h3 j y hy; refine ⟨b, q1, q2.imp ?_ ?_⟩
        · rintro ⟨xv, γ, e1, e2, e3⟩
          exact ⟨xv, γ, e1, e2, by rw [t2 γ (b5 k xv γ e1).1]; exact e3⟩
        · intro q; exact q.relab hob
      · obtain ⟨⟨row0, h1⟩, j, h2, h3⟩ := h.hl.ar.outs k xv γ hk; obtain ⟨n1, n2⟩ := b5 k xv γ hk; exact ⟨b4 γ row0 n1 n2 h1, j, h2, by rw [t2 γ n1]; exact h3⟩

theorem renB_look [Arn] {β β' : Nat} : ∀ (l bx : List (Nat × List SC)), renB β β' l = some bx → ∀ γ, ((γ = β ∨ γ = β') → look bx γ = none) ∧
    (γ ≠ β → γ ≠ β' → (look l γ = none ∧ look bx γ = none) ∨ ∃ r r', look l γ = some r ∧ look bx γ = some r' ∧ renL β β' r = some r')
  | [], bx, h, γ => by
    simp only [renB, oi] at h; subst h; exact ⟨fun _ => rfl, fun _ _ => .inl ⟨rfl, rfl⟩⟩
  | (δ, row) :: l, bx, h, γ => by
    simp only [renB] at h; split at h
    · rename_i hδ; simp only [Bool.or_eq_true, decide_eq_true_eq] at hδ; obtain ⟨i1, i2⟩ := renB_look l bx h γ; refine ⟨i1, fun h1 h2 => ?_⟩
      have hn : δ ≠ γ := by rintro rfl; exact hδ.elim h1 h2
      have e : look ((δ, row) :: l) γ = look l γ := by
        show (bif Nat.beq δ γ then some row else look l γ) = _
        have : Nat.beq δ γ = false := by
          cases hb : Nat.beq δ γ with
          | true => exact absurd (Nat.eq_of_beq_eq_true hb) hn
          | false => rfl
        rw [this]; rfl
      rw [e]; exact i2 h1 h2
    · rename_i hδ; simp only [Bool.or_eq_true, decide_eq_true_eq] at hδ; split at h
      · rename_i row' r h1 h2; simp only [oi] at h; subst h; obtain ⟨i1, i2⟩ := renB_look l r h2 γ; by_cases e : δ = γ
        · subst e; have e1 : ∀ (x : List SC) (m : List (Nat × List SC)), look ((δ, x) :: m) δ = some x := fun x m => by
            show (bif Nat.beq δ δ then some x else look m δ) = _
            rw [Nat.beq_refl]; rfl
          refine ⟨fun h => absurd h hδ, fun _ _ => .inr ⟨row, row', e1 _ _, e1 _ _, h1⟩⟩
        · have hb : Nat.beq δ γ = false := by
            cases hb : Nat.beq δ γ with
            | true => exact absurd (Nat.eq_of_beq_eq_true hb) e
            | false => rfl
          have e1 : ∀ (x : List SC) (m : List (Nat × List SC)), look ((δ, x) :: m) γ = look m γ := fun x m => by
            show (bif Nat.beq δ γ then some x else look m γ) = _
            rw [hb]; rfl
          rw [e1, e1]; exact ⟨i1, i2⟩
      · cases h
end
end Go.Proofs.Ytmglkddddpipgaa.Sx

namespace Go.Proofs.Ytmglkddddpipgaa.Sx
open Go.RowKit

section
variable {B : Base} {ρ : List D} {α : AS} {a : Act} {bs : List Act} {w : World} {g : G}

def subAS (α : AS) (β : Nat) (xa : A) (ty : Ty) (bx : Nat → Option (List SC)) (lv : Nat → Prop) (ar : Nat → Option (ArT × A)) (ou : Nat → Option (A × Nat)) : AS :=
  { α with slot := fun j => (α.slot j).frb β xa ty, box := bx, saved := α.saved.map fun q => (q.1, fun j => (q.2 j).frb β xa ty), live := lv, ar := ar, out := ou }

theorem frbL_all2 [Arn] {R R' : SC → Value → Prop} {β : Nat} {xa : A} {ty : Ty} (h : ∀ c c' v, c.frb β xa ty = some c' → R c v → R' c' v) : ∀ {cs cs' : List SC} {vs : List Value}, frbL β xa ty cs = some cs' → All2 R cs vs → All2 R' cs' vs := by
  intro cs cs' vs hr ha; induction ha generalizing cs' with
  | nil => simp only [frbL, oi] at hr; subst hr; exact .nil
  | cons h1 _ ih =>
    simp only [frbL] at hr; split at hr
    · rename_i c r h2 h3; simp only [oi] at hr; subst hr; exact .cons (h _ _ _ h2 h1) (ih h3)
    · cases hr

theorem SC.frb_rep [Arn] {β : Nat} {xa : A} {ty : Ty} {α' : AS} (hk : α'.known = α.known) (hbox : ∀ γ, γ ≠ β → (∃ r, α.box γ = some r) → ∃ r, α'.box γ = some r)
    (hpt : SCRep ρ α' g w (.a xa ty) (.pointer (some ⟨g.θ β, 0, none⟩))) : ∀ c c' v, c.frb β xa ty = some c' → SCRep ρ α g w c v → SCRep ρ α' g w c' v := by
  intro c c' v hc hr; have kn : ∀ k, α.known k → α'.known k := fun k h => by rw [hk]; exact h
  cases c with
  | adr γ o =>
    obtain ⟨h1, rfl⟩ := hr; simp only [SC.frb] at hc; split at hc
    · rename_i hγ; subst hγ; split at hc
      · rename_i ho; subst ho; simp only [oi] at hc; subst hc; exact hpt
      · cases hc
    · rename_i hγ; simp only [oi] at hc; subst hc; exact ⟨hbox γ hγ h1, rfl⟩
  | fn f caps =>
    obtain ⟨vs, h1, h2⟩ := hr; simp only [SC.frb] at hc; split at hc
    · rename_i hall; simp only [oi] at hc; subst hc; refine ⟨vs, h1, ?_⟩
      clear h1; simp only [List.all_eq_true, bne_iff_ne] at hall; generalize vs.toList = us at h2
      induction h2 with
      | nil => exact .nil
      | cons hh _ ih =>
        obtain ⟨h3, hu⟩ := hh; have h4 := hall _ List.mem_cons_self
        exact .cons ⟨hbox _ h4 h3, hu⟩ (ih fun q hq => hall q (by simp [hq]))
    · cases hc
  | lst k ps e =>
    obtain ⟨h1, h2, h3, h4, h5⟩ := hr; simp only [SC.frb] at hc; split at hc
    · rename_i hall; simp only [oi] at hc; subst hc; simp only [List.all_eq_true, bne_iff_ne] at hall; refine ⟨kn _ h1, h2, h3, h4, h5.imp id ?_⟩
      rintro ⟨b, cap, e1, e2, e3, e4⟩
      refine ⟨b, cap, e1, e2, e3, fun j q hq => ?_⟩
      obtain ⟨f1, f2, f3⟩ := e4 j q hq; have h4 := hall _ (List.mem_of_getElem? hq)
      exact ⟨f1, hbox _ h4 f2, f3⟩
    · cases hc
  | pel γ off =>
    obtain ⟨h1, b, o, h2, h3, h4⟩ := hr; simp only [SC.frb] at hc; split at hc
    · cases hc
    · rename_i hγ; simp only [oi] at hc; subst hc; exact ⟨hbox γ hγ h1, b, o, h2, h3, h4⟩
  | a x t => simp only [SC.frb, oi] at hc; subst hc; exact hr
  | nl t e => simp only [SC.frb, oi] at hc; subst hc; exact hr
  | own i k t e => simp only [SC.frb, oi] at hc; subst hc; obtain ⟨xs, q1, q2, q3, q4⟩ := hr; exact ⟨xs, q1, q2, kn _ q3, q4⟩
  | el x i e off => simp only [SC.frb, oi] at hc; subst hc; exact hr
  | nilp => simp only [SC.frb, oi] at hc; subst hc; exact hr
  | nlp => simp only [SC.frb, oi] at hc; subst hc; exact hr
  | dsl k => simp only [SC.frb, oi] at hc; subst hc; exact ⟨kn _ hr.1, hr.2⟩
  | del k i off => simp only [SC.frb, oi] at hc; subst hc; exact ⟨kn _ hr.1, hr.2⟩
  | dvw k i => simp only [SC.frb, oi] at hc; subst hc; exact ⟨kn _ hr.1, hr.2⟩
  | ful i t => simp only [SC.frb, oi] at hc; subst hc; exact hr
  | nel x e off => simp only [SC.frb, oi] at hc; subst hc; exact hr
  | ptl x e off => simp only [SC.frb, oi] at hc; subst hc; exact hr

theorem RelG.sub [Arn] (h : RelG B ρ α a bs w g) {g' : G} {β : Nat} {xa : A} {ty : Ty} {bx : Nat → Option (List SC)} {lv : Nat → Prop} {ar : Nat → Option (ArT × A)} {ou : Nat → Option (A × Nat)} (hle : LeC ρ α g w ρ α g' w) (hθ : g'.θ = g.θ)
    (hpt : ∃ d, xa.ev ρ = some d ∧ d.t = ty ∧ RepD g'.p w (.pointer (some ⟨g'.θ β, 0, none⟩)) d)
    (b2 : bx β = none) (b3 : ∀ γ r', γ ≠ β → bx γ = some r' → ∃ r, α.box γ = some r ∧ frbL β xa ty r = some r') (b4 : ∀ γ r, γ ≠ β → α.box γ = some r → ∃ r', bx γ = some r')
    (hbo : ∀ γ r, γ ≠ β → α.box γ = some r → g'.ow (g.θ γ) = some (.box γ) ∧ ∀ o, ¬ g'.p (g.θ γ) o)
    (hlv : ∀ k, lv k → α.live k ∧ TokOk B ρ α g' w k) (hpwf : ∀ b o, g'.p b o → b < w.heap.size) (hH : Held B ρ (subAS α β xa ty bx lv ar ou) g' w) : RelG B ρ (subAS α β xa ty bx lv ar ou) a bs w g' := by
  have hbox : ∀ γ, γ ≠ β → (∃ r, α.box γ = some r) → ∃ r, (subAS α β xa ty bx lv ar ou).box γ = some r := fun γ h1 ⟨r, hr⟩ => b4 γ r h1 hr
  have hsc : ∀ c c' v, c.frb β xa ty = some c' → SCRep ρ α g w c v → SCRep ρ (subAS α β xa ty bx lv ar ou) g' w c' v := fun c c' v hc hr =>
    SC.frb_rep (α := α) (α' := subAS α β xa ty bx lv ar ou) (g := g') rfl hbox hpt c c' v hc (SCRep.mono hle hr)
  have hsv : ∀ s v, SVRep ρ α g w s v → SVRep ρ (subAS α β xa ty bx lv ar ou) g' w (s.frb β xa ty) v := by
    intro s v hs; cases s with
    | unk => trivial
    | dead => exact hs
    | one c =>
      simp only [SV.frb]; cases hc : c.frb β xa ty with
      | none => trivial
      | some c' => exact hsc _ _ _ hc hs
    | agg cs =>
      obtain ⟨vs, h5, h6⟩ := hs; simp only [SV.frb]; cases hc : frbL β xa ty cs with
      | none => trivial
      | some cs' => exact ⟨vs, h5, frbL_all2 hsc hc h6⟩
    | tup ps =>
      simp only [SV.frb]; split
      · rename_i hall; obtain ⟨us, h5, h6⟩ := hs; refine ⟨us, h5, ?_⟩
        clear h5; simp only [List.all_eq_true] at hall; generalize us.toList = ul at h6
        induction h6 with
        | nil => exact .nil
        | cons hh _ ih =>
          refine .cons ?_ (ih fun q hq => hall q (by simp [hq]))
          have h7 := hall _ List.mem_cons_self
          split at h7
          · rename_i cs hcs; simp only [beq_iff_eq] at h7; subst h7; rcases hh with ⟨h8, vs, h9, h10⟩ | ⟨h8, c, h9, h10⟩
            · exact .inl ⟨h8, vs, h9, frbL_all2 hsc hcs h10⟩
            · refine .inr ⟨h8, c, h9, ?_⟩
              rw [h9] at hcs; simp only [frbL] at hcs; split at hcs
              · rename_i c' r e1 e2; simp only [oi, List.cons.injEq] at hcs; obtain ⟨rfl, _⟩ := hcs; exact hsc _ _ _ e1 h10
              · cases hcs
          · cases h7
      · trivial
  refine { nodef := h.nodef, sz := h.sz, slot := fun i => hsv _ _ (h.slot i), saved := ?_, box := fun γ r hr => ?_, live := fun k hk => ⟨(h.live k (hlv k hk).1).1, ⟨(hlv k hk).2.own⟩⟩, pwf := hpwf, bel := h.bel, hB := h.hB, dk := h.dk, hl := hH }
  · have hs := h.saved
    have key : ∀ (sv : List (Nat × (Nat → SV))) (l : List Act), All2 (fun (q : Nat × (Nat → SV)) (b : Act) => b.defers = [] ∧ b.tmps.size = q.1 ∧ ∀ i, SVRep ρ α g w (q.2 i) (b.tmps.getD i undef)) sv l →
        All2 (fun (q : Nat × (Nat → SV)) (b : Act) => b.defers = [] ∧ b.tmps.size = q.1 ∧ ∀ i, SVRep ρ (subAS α β xa ty bx lv ar ou) g' w (q.2 i) (b.tmps.getD i undef)) (sv.map fun q => (q.1, fun j => (q.2 j).frb β xa ty)) l := by
      intro sv l hl; induction hl with
      | nil => exact .nil
      | cons h1 _ ih => exact .cons ⟨h1.1, h1.2.1, fun i' => hsv _ _ (h1.2.2 i')⟩ ih
    exact key _ _ hs
  · replace hr : bx γ = some r := hr
    have e1 : γ ≠ β := by rintro rfl; rw [b2] at hr; cases hr
    obtain ⟨r0, k1, k2⟩ := b3 γ r e1 hr; have hb0 := h.box γ r0 k1
    obtain ⟨q1, q2⟩ := hbo γ r0 e1 k1; obtain ⟨cs, el, h4, h5⟩ := hb0.cells; exact ⟨by rw [hθ]; exact hb0.lo, by rw [hθ]; exact q1, by rw [hθ]; exact q2, cs, el, by rw [hθ]; exact h4, frbL_all2 hsc k2 h5⟩

def frbAS (α : AS) (β i : Nat) (e : Ty) (bx : Nat → Option (List SC)) : AS := subAS α β (.v i) (.pt e) bx α.live α.ar α.out

theorem RelG.frb [Arn] (h : RelG B ρ α a bs w g) {β i : Nat} {e : Ty} {row : List SC} {bx : Nat → Option (List SC)} {x : e.den} (hβ : α.box β = some row) (hi : nth ρ i = some ⟨.pt e, some x⟩)
    (hrep : ∀ cs el, w.heap[g.θ β]? = some (.cells cs el (0, 0)) → All2 (SCRep ρ α g w) row cs.toList → Rep g.p w e cs.toList x)
    (b2 : bx β = none) (b3 : ∀ γ r', γ ≠ β → bx γ = some r' → ∃ r, α.box γ = some r ∧ frbL β (.v i) (.pt e) r = some r') (b4 : ∀ γ r, γ ≠ β → α.box γ = some r → ∃ r', bx γ = some r') (b5 : ∀ k xv γ, α.out k = some (xv, γ) → γ ≠ β) :
    ∃ g', RelG B ρ (frbAS α β i e bx) a bs w g' := by
  have hb := h.box β row hβ
  obtain ⟨cs0, el0, hh0, hc0⟩ := hb.cells; have hx := hrep cs0 el0 hh0 hc0
  have hlt := block_lt hh0
  let g' : G := { g with p := g.p.more fun b o => b = g.θ β ∧ o < cs0.size }
  have hle : LeC ρ α g w ρ α g' w := ⟨fun _ _ h => h, fun γ row hb => ⟨⟨row, hb⟩, rfl⟩, fun j hj => ⟨hj, rfl, rfl, rfl⟩, fun b o hp => ⟨.inl hp, rfl⟩, fun _ _ _ h => h⟩
  have hpt : RepD g'.p w (.pointer (some ⟨g.θ β, 0, none⟩)) ⟨.pt e, some x⟩ := by
    refine .inr ⟨g.θ β, cs0.toList, x, rfl, rfl, fun j v hj => ?_, Rep.mono hle.mem hle.ad e _ _ hx⟩
    rw [Nat.zero_add]; have hjl : j < cs0.size := by rw [← Array.length_toList]; exact (List.getElem?_eq_some_iff.1 hj).1
    refine ⟨.inr ⟨rfl, hjl⟩, ?_⟩
    rw [cell_of_row w (g.θ β) j cs0 el0 (0, 0) hh0]; simpa using hj
  have o2 : ∀ b k, g.ow b = some (.tok k) → b ≠ g.θ β := by
    rintro b k hb' rfl
    rw [hb.ow] at hb'; cases hb'
  refine ⟨g', h.sub hle rfl ⟨_, hi, rfl, hpt⟩ b2 b3 b4 (fun γ r e1 k1 => ?_) (fun k hk => ⟨hk, ?_⟩) ?_ ?_⟩
  · have hbo := h.box γ r k1
    have hne : g.θ γ ≠ g.θ β := by
      intro e2; have := hbo.ow
      rw [e2, hb.ow] at this; simp only [oi, Res.box.injEq] at this; exact e1 this.symm
    exact ⟨hbo.ow, fun o hp => hp.elim (hbo.np o) (fun h => hne h.1)⟩
  · obtain ⟨n, xs, h1, h2, h3⟩ := (h.live k hk).2
    exact ⟨n, xs, h1, fun b hb' => ⟨(h2 b hb').1, fun o ho hp => hp.elim ((h2 b hb').2 o ho) (fun h => o2 b k (h2 b hb').1 h.1)⟩, h3.mono hle.mem hle.ad (fun _ _ h => h) (fun _ h => h) rfl rfl rfl fun b hb' hn o hp => hp.elim (hn o) (fun h => o2 b k (h2 b hb').1 h.1)⟩
  · rintro b o (hp | ⟨rfl, _⟩)
    · exact h.pwf b o hp
    · exact hlt
  · have hobj : ∀ b r, g.ow b = some r → r.isObj → g'.ow b = some r ∧ w.heap[b]? = w.heap[b]? ∧ ∀ o, g'.p b o → g.p b o := fun b r hr ho => ⟨hr, rfl, fun o hp => hp.elim id fun hp => by
      obtain ⟨rfl, _⟩ := hp; rw [hb.ow] at hr; simp only [oi] at hr; subst hr; exact ho.elim⟩
    have hH : Held B ρ α g' w := h.hl.mono h.bel.size hle rfl rfl rfl (fun b _ hno => ⟨rfl, fun o => ⟨fun hp => hp.elim id fun hp => by
      obtain ⟨rfl, _⟩ := hp; exact absurd hb.ow (hno _), .inl⟩⟩) (fun b r hr => ⟨h.hl.owb b r hr, .inl ⟨r, hr⟩⟩) hobj
    refine { hH with adf := hH.adf, ark := hH.ark, ar := ⟨fun k T x hk => ⟨(hH.ar.ars k T x hk).ex⟩, fun k xv γ hk => ?_⟩ }
    obtain ⟨⟨row0, h1⟩, h2⟩ := hH.ar.outs k xv γ hk; exact ⟨b4 γ row0 (b5 k xv γ hk) h1, h2⟩

theorem frbB_look [Arn] {β : Nat} {xa : A} {ty : Ty} : ∀ (l bx : List (Nat × List SC)), frbB β xa ty l = some bx → ∀ γ, (γ = β → look bx γ = none) ∧
    (γ ≠ β → (look l γ = none ∧ look bx γ = none) ∨ ∃ r r', look l γ = some r ∧ look bx γ = some r' ∧ frbL β xa ty r = some r')
  | [], bx, h, γ => by
    simp only [frbB, oi] at h; subst h; exact ⟨fun _ => rfl, fun _ => .inl ⟨rfl, rfl⟩⟩
  | (δ, row) :: l, bx, h, γ => by
    simp only [frbB] at h; split at h
    · rename_i hδ; obtain ⟨i1, i2⟩ := frbB_look l bx h γ; refine ⟨i1, fun h1 => ?_⟩
      have hn : δ ≠ γ := by rintro rfl; exact h1 hδ
      have e : look ((δ, row) :: l) γ = look l γ := by
        show (bif Nat.beq δ γ then some row else look l γ) = _
        have : Nat.beq δ γ = false := by
          cases hb : Nat.beq δ γ with
          | true => exact absurd (Nat.eq_of_beq_eq_true hb) hn
          | false => rfl
        rw [this]; rfl
      rw [e]; exact i2 h1
    · rename_i hδ; split at h
      · rename_i row' r h1 h2; simp only [oi] at h; subst h; obtain ⟨i1, i2⟩ := frbB_look l r h2 γ; by_cases e : δ = γ
        · subst e; have e1 : ∀ (x : List SC) (m : List (Nat × List SC)), look ((δ, x) :: m) δ = some x := fun x m => by
            show (bif Nat.beq δ δ then some x else look m δ) = _
            rw [Nat.beq_refl]; rfl
          refine ⟨fun h => absurd h hδ, fun _ => .inr ⟨row, row', e1 _ _, e1 _ _, h1⟩⟩
        · have hb : Nat.beq δ γ = false := by
            cases hb : Nat.beq δ γ with
            | true => exact absurd (Nat.eq_of_beq_eq_true hb) e
            | false => rfl
          have e1 : ∀ (x : List SC) (m : List (Nat × List SC)), look ((δ, x) :: m) γ = look m γ := fun x m => by
            show (bif Nat.beq δ γ then some x else look m γ) = _
            rw [hb]; rfl
          rw [e1, e1]; exact ⟨i1, i2⟩
      · cases h
end
end Go.Proofs.Ytmglkddddpipgaa.Sx

namespace Go.Proofs.Ytmglkddddpipgaa.Sx
open Go.RowKit

section
variable {B : Base} {ρ : List D} {α : AS} {a : Act} {bs : List Act} {w : World} {g : G}

theorem ObjAt.mono1 [Arn] {ρ ρ' : List D} {α α' : AS} {g g' : G} {w w' : World} {k j : Nat} {T : ArT} {b : Nat} {y : T.t.den} (h : ObjAt g w k j T b y) (hl : LeC ρ α g w ρ' α' g' w')
    (hob : ∀ b r, g.ow b = some r → (r = .obj k j ∨ ∃ c, r = .obl k j c) → g'.ow b = some r ∧ w'.heap[b]? = w.heap[b]? ∧ ∀ o, g'.p b o → g.p b o) : ObjAt g' w' k j T b y := by
  obtain ⟨h1, h2, h3⟩ := h; obtain ⟨k1, k2, k3⟩ := hob b _ h1 (.inl rfl)
  refine ⟨k1, fun o ho => h2 o (k3 o ho), h3.imp ?_ ?_⟩
  · rintro ⟨e1, cs, el, e2, e3, e4⟩
    refine ⟨e1, cs, el, by rw [k2]; exact e2, Rep.mono hl.mem hl.ad _ _ _ e3, fun c e hc => ?_⟩
    obtain ⟨v, t, f1, f2, n, xs, f3, f4⟩ := e4 c e hc; refine ⟨v, t, f1, f2, n, xs, ownsRow_same f3 fun b hb => (hob b _ (f4 b hb).1 (.inr ⟨c, rfl⟩)).2.1, fun b hb => ?_⟩
    obtain ⟨g1, g2⟩ := f4 b hb; obtain ⟨m1, m2, m3⟩ := hob b _ g1 (.inr ⟨c, rfl⟩)
    exact ⟨m1, fun o ho hp => g2 o ho (m3 o hp)⟩
  · rintro ⟨e1, es, cl, e2, e3, e4⟩
    exact ⟨e1, es, cl, by rw [k2]; exact e2, e3.mono hl.mem hl.ad, e4⟩

theorem ObjAt.relab1 [Arn] {g g' : G} {w : World} {k j : Nat} {T : ArT} {b : Nat} {y : T.t.den} (h : ObjAt g w k j T b y) (h1 : ∀ b, g.ow b = some (.obj k j) → g'.ow b = some (.obj k j)) (h2 : ∀ b c, g.ow b = some (.obl k j c) → g'.ow b = some (.obl k j c))
    (hc : ∀ b o, g'.p b o ↔ g.p b o) (hr : ∀ (t : Ty) (vs : List Value) (x : t.den), Rep g.p w t vs x → Rep g'.p w t vs x) : ObjAt g' w k j T b y := by
  obtain ⟨e1, e2, e3⟩ := h; refine ⟨h1 _ e1, fun o ho => e2 o ((hc b o).1 ho), e3.imp ?_ ?_⟩
  · rintro ⟨q1, cs, el, q2, q3, q4⟩
    refine ⟨q1, cs, el, q2, hr _ _ _ q3, fun c e hc' => ?_⟩
    obtain ⟨v, t, f1, f2, n, xs, f3, f4⟩ := q4 c e hc'; exact ⟨v, t, f1, f2, n, xs, f3, fun b hb => ⟨h2 _ _ (f4 b hb).1, fun o ho hp => (f4 b hb).2 o ho ((hc b o).1 hp)⟩⟩
  · rintro ⟨q1, es, cl, q2, q3, q4⟩
    refine ⟨q1, es, cl, q2, ?_, q4⟩
    unfold RepM at q3 ⊢
    split at q3
    · exact Forall2.mono (fun e kv ⟨z1, z2⟩ => ⟨z1, hr _ _ _ z2⟩) q3
    · exact q3.elim

open Classical in
noncomputable def labs (ars : List (Nat × ArT)) (ow : Nat → Option Res) : Nat → Option Res := fun b => match ow b with
  | some r => if InArs ars r then some r else none
  | none => none

theorem labs_some [Arn] {ars : List (Nat × ArT)} {ow : Nat → Option Res} {b : Nat} {r : Res} : labs ars ow b = some r ↔ ow b = some r ∧ InArs ars r := by
  unfold labs; cases h : ow b with
  | none => simp
  | some r' =>
    simp only
    split
    · rename_i hi; simp only [oi]; constructor
      · rintro rfl; exact ⟨rfl, hi⟩
      · exact fun h => h.1
    · rename_i hi; simp only [reduceCtorEq, oi, false_iff, not_and]; rintro rfl; exact hi

theorem labs_none [Arn] {ars : List (Nat × ArT)} {ow : Nat → Option Res} {b : Nat} (h : ∀ r, ow b = some r → ¬ InArs ars r) : labs ars ow b = none := by
  cases hl : labs ars ow b with
  | none => rfl
  | some r =>
    obtain ⟨h1, h2⟩ := labs_some.1 hl; exact absurd h2 (h r h1)

theorem arNew_look [Arn] : ∀ (ars : List (Nat × ArT)) (i k : Nat), (look (arNew i ars) k = none ∧ ∀ q ∈ ars, q.1 ≠ k) ∨ ∃ m T, look (arNew i ars) k = some (T, .v (i + m)) ∧ ars[m]? = some (k, T)
  | [], i, k => .inl ⟨rfl, by simp⟩
  | (k0, T0) :: r, i, k => by
    have e : look (arNew i ((k0, T0) :: r)) k = bif Nat.beq k0 k then some (T0, .v i) else look (arNew (i + 1) r) k := rfl
    rw [e]; cases hb : Nat.beq k0 k with
    | true =>
      have := Nat.eq_of_beq_eq_true hb
      subst this; exact .inr ⟨0, T0, rfl, rfl⟩
    | false =>
      have hne : k0 ≠ k := by rintro rfl; simp at hb
      rcases arNew_look r (i + 1) k with ⟨h1, h2⟩ | ⟨m, T, h1, h2⟩
      · refine .inl ⟨h1, fun q hq => ?_⟩
        rcases List.mem_cons.1 hq with rfl | hq
        · exact hne
        · exact h2 q hq
      · exact .inr ⟨m + 1, T, by rw [show i + (m + 1) = i + 1 + m by omega]; exact h1, by simpa using h2⟩

open Classical in
theorem RelG.calledA [Arn] (h : RelG B ρ α a bs w g) {sig : Sig} {rs : List D} {v : Value} {w' : World} {p' : PF} {om' : Nat → Option Res} {us cs : List Value}
    (hr : ReturnedA sig w g.p (labs sig.ars g.ow) rs v w' p' om' us cs) (had : ∀ k j b, (g.p.ad k j b → p'.ad k j b) ∧ ((∀ q ∈ sig.ars, q.1 ≠ k) → p'.ad k j b → g.p.ad k j b))
    (hars : ∀ q ∈ sig.ars, ∃ x, α.ar q.1 = some (q.2, x)) (hout : ∀ q ∈ sig.ars, α.out q.1 = none) {nt i : Nat}
    (hn : ∀ m d, rs[(outL sig).length + m]? = some d → nth ρ (i + m) = some d)
    (hf : ∀ k, nt ≤ k → k < nt + nOwn (outL sig) → ¬ α.known k) {nb : Nat} {δ : Δ} (hd : δ.newb = none ∧ δ.setb = none ∧ δ.kill = none ∧ δ.dst = none ∧ δ.nt = nOwn (outL sig) ∧ δ.dy = [] ∧ δ.dr = arNew i sig.ars) :
    ∃ g', RelG B ρ (α.upd δ nb nt) a bs w' g' ∧ g'.p = p' ∧
      (∀ j v e sz, (ownList (outL sig) cs)[j]? = some (v, e, sz) → (α.upd δ nb nt).known (nt + j) ∧ g'.T (nt + j) = v ∧ g'.te (nt + j) = e ∧ g'.tw (nt + j) = sz) := by
  have hB0 := h.hl.b0
  obtain ⟨d1, d2, d3, d4, d5, d6, d7⟩ := hd; obtain ⟨rs1, as, hrs, hrep, htys, hras⟩ := hr.rep; have hdn : ∀ k, (α.upd δ nb nt).dyn k = α.dyn k := fun k => by simp only [AS.upd, d6]; rfl
  have hl1 : rs1.length = (outL sig).length := by rw [← List.length_map (f := (·.t)), htys, List.length_map]
  have hcl : cs.length = (outL sig).length := by have := hrep.len; rw [← this, hl1]
  have hol := ownList_len (outL sig) cs hcl
  let L := ownList (outL sig) cs
  let g' : G := { g with
    p := p'
    T := fun k => if nt ≤ k then ((L[k - nt]?).map (·.1)).getD (g.T k) else g.T k
    te := fun k => if nt ≤ k then ((L[k - nt]?).map (·.2.1)).getD (g.te k) else g.te k
    tw := fun k => if nt ≤ k then ((L[k - nt]?).map (·.2.2)).getD (g.tw k) else g.tw k
    ow := fun b => if hx : ∃ (j : Nat) (x : Value × TypeId × Nat), L[j]? = some x ∧ x.1.ownBlock = some b then some (.tok (nt + hx.choose)) else
      match om' b with
      | some r => some r
      | none => match g.ow b with
        | some r => if InArs sig.ars r then none else some r
        | none => none }
  have htok : ∀ j v e sz, L[j]? = some (v, e, sz) → g'.T (nt + j) = v ∧ g'.te (nt + j) = e ∧ g'.tw (nt + j) = sz := by
    intro j v e sz hj; simp only [g', Nat.le_add_right, if_true, Nat.add_sub_cancel_left, hj]; exact ⟨rfl, rfl, rfl⟩
  have hold : ∀ k, α.known k → g'.T k = g.T k ∧ g'.te k = g.te k ∧ g'.tw k = g.tw k := by
    intro k hk; by_cases hle : nt ≤ k
    · have : L[k - nt]? = none := by
        rw [List.getElem?_eq_none_iff]; rcases Nat.lt_or_ge k (nt + nOwn (outL sig)) with h1 | h1
        · exact absurd hk (hf k hle h1)
        · show (ownList (outL sig) cs).length ≤ k - nt
          omega
      simp [g', this]
    · simp [g', hle]
  have hlt : ∀ (j : Nat) (x : Value × TypeId × Nat) (b : Nat), L[j]? = some x → x.1.ownBlock = some b → ((∃ r, labs sig.ars g.ow b = some r) ∨ w.heap.size ≤ b) ∧ b < w'.heap.size := by
    rintro j ⟨v, e, sz⟩ b hj hb
    obtain ⟨n, xs, h1, _⟩ := hr.own.own j v e sz hj; exact ⟨(hr.ownl _ _ b hj hb).2, (h1.lt b hb).2⟩
  have hnL : ∀ b, b < w.heap.size → labs sig.ars g.ow b = none → ¬ ∃ (j : Nat) (x : Value × TypeId × Nat), L[j]? = some x ∧ x.1.ownBlock = some b := by
    rintro b hb hn ⟨j, x, h1, h2⟩
    rcases (hlt j x b h1 h2).1 with ⟨r, h⟩ | h
    · rw [hn] at h; cases h
    · omega
  have hkeep : ∀ b r, g.ow b = some r → ¬ InArs sig.ars r → g'.ow b = some r ∧ w'.heap[b]? = w.heap[b]? ∧ ∀ o, p' b o ↔ g.p b o := by
    intro b r hb hi; have hbl := h.hl.owb b r hb
    have hno : labs sig.ars g.ow b = none := labs_none fun r' hr' => by rw [hb] at hr'; simp only [oi] at hr'; subst hr'; exact hi
    obtain ⟨k1, k2⟩ := hr.fr b hbl hno; have hom : om' b = none := by
      cases ho : om' b with
      | none => rfl
      | some r' =>
        rcases hr.labn b r' ho with ⟨r'', h1⟩ | h1
        · rw [hno] at h1; cases h1
        · omega
    refine ⟨?_, k1, k2⟩
    simp only [g', dif_neg (hnL b hbl hno), hom, hb, if_neg hi]
  have hlabs : ∀ b r, om' b = some r → g'.ow b = some r := by
    intro b r hb; have : ¬ ∃ (j : Nat) (x : Value × TypeId × Nat), L[j]? = some x ∧ x.1.ownBlock = some b := by
      rintro ⟨j, x, h1, h2⟩
      have := (hr.ownl j x b h1 h2).1
      rw [hb] at this; cases this
    simp only [g', dif_neg this, hb]
  have hback : ∀ b r, g'.ow b = some r → b < w'.heap.size ∧ ((∃ r', g.ow b = some r') ∨ w.heap.size ≤ b) := by
    intro b r hb; simp only [g'] at hb; split at hb
    · rename_i hx; obtain ⟨x, hx1, hx2⟩ := hx.choose_spec; exact ⟨(hlt _ _ _ hx1 hx2).2, (hlt _ _ _ hx1 hx2).1.imp (fun ⟨r, h⟩ => ⟨r, (labs_some.1 h).1⟩) id⟩
    · split at hb
      · rename_i r' ho; refine ⟨(hr.lab b r' ho).1, ?_⟩
        rcases hr.labn b r' ho with ⟨r'', h1⟩ | h1
        · exact .inl ⟨r'', (labs_some.1 h1).1⟩
        · exact .inr h1
      · split at hb
        · rename_i r' hg; exact ⟨Nat.lt_of_lt_of_le (h.hl.owb b r' hg) hr.bel.size, .inl ⟨r', hg⟩⟩
        · cases hb
  have hnotA : ∀ {k j : Nat}, (∀ q ∈ sig.ars, q.1 ≠ k) → ∀ r, (r = Res.obj k j ∨ ∃ c, r = Res.obl k j c) → ¬ InArs sig.ars r := by
    rintro k j hk r hr ⟨q, hq, hi⟩
    rcases hr with rfl | ⟨c, rfl⟩
    · rcases hi with ⟨j', e⟩ | ⟨j', c', e⟩
      · simp only [Res.obj.injEq] at e; exact hk q hq e.1.symm
      · cases e
    · rcases hi with ⟨j', e⟩ | ⟨j', c', e⟩
      · cases e
      · simp only [Res.obl.injEq] at e; exact hk q hq e.1.symm
  have htokA : ∀ k, ¬ InArs sig.ars (.tok k) := by rintro k ⟨q, _, ⟨j, e⟩ | ⟨j, c, e⟩⟩ <;> cases e
  have hboxA : ∀ k, ¬ InArs sig.ars (.box k) := by rintro k ⟨q, _, ⟨j, e⟩ | ⟨j, c, e⟩⟩ <;> cases e
  have hle : LeC ρ α g w ρ (α.upd δ nb nt) g' w' :=
    ⟨fun _ _ h => h, fun β row hb => ⟨⟨row, by simp only [AS.upd, d1, d2]; exact hb⟩, rfl⟩, fun k hk => ⟨.inl hk, hold k hk⟩, hr.mem, fun k j b hk => (had k j b).1 hk⟩
  have hnew : ∀ j v e sz, L[j]? = some (v, e, sz) → (α.upd δ nb nt).known (nt + j) ∧ g'.T (nt + j) = v ∧ g'.te (nt + j) = e ∧ g'.tw (nt + j) = sz := by
    intro j v e sz hj; refine ⟨.inr ⟨Nat.le_add_right _ _, ?_⟩, htok j v e sz hj⟩
    have : j < (ownList (outL sig) cs).length := (List.getElem?_eq_some_iff.1 hj).1
    rw [d5]; omega
  have hsl : (α.upd δ nb nt).slot = α.slot := by simp only [AS.upd, d4]; funext i; simp
  refine ⟨g', { nodef := h.nodef, sz := h.sz, slot := fun m => ?_, saved := ?_, box := fun β row hb => ?_, live := fun k hk => ?_, pwf := hr.wf, bel := ?_, hB := h.hB, dk := fun k x hx => .inl (h.dk k x (by rw [← hdn]; exact hx)), hl := ?_ }, rfl, hnew⟩
  · rw [hsl]; exact (h.slot m).mono hle
  · exact Forall2.mono (fun _ _ ⟨h1, h2, h3⟩ => ⟨h1, h2, fun i => (h3 i).mono hle⟩) h.saved
  · have hb' : α.box β = some row := by simpa only [AS.upd, d1, d2] using hb
    have hbo := h.box β row hb'
    obtain ⟨k1, k2, k3⟩ := hkeep _ _ hbo.ow (hboxA _)
    exact RelG.BoxOk_mono hle hbo rfl (k1.trans hbo.ow.symm) (fun o hp => hbo.np o ((k3 o).1 hp)) k2
  · have hk' : (α.live k ∧ δ.kill ≠ some k) ∨ (nt ≤ k ∧ k < nt + δ.nt) := hk
    rcases hk' with ⟨hk, _⟩ | ⟨h1, h2⟩
    · obtain ⟨h1, n, xs, h2, h3, hdy⟩ := h.live k hk; obtain ⟨e1, e2, e3⟩ := hold k h1; refine ⟨.inl h1, n, xs, ?_, ?_, ?_⟩
      rotate_left 2
      · refine hdy.mono hle.mem hle.ad (fun _ _ h => h) (fun x hx => by rw [← hdn]; exact hx) e1 e2 e3 (fun b hb hno o hp => hno o ?_)
        exact ((hkeep b _ (h3 b hb).1 (htokA _)).2.2 o).1 hp
      · rw [e1, e2, e3]; exact ownsRow_same h2 fun b hb => (hkeep b _ (h3 b hb).1 (htokA _)).2.1
      · rw [e1, e3]; intro b hb; obtain ⟨h4, h5⟩ := h3 b hb; obtain ⟨k1, k2, k3⟩ := hkeep b _ h4 (htokA _)
        exact ⟨k1, fun o ho hp => h5 o ho ((k3 o).1 hp)⟩
    · rw [d5] at h2; have hjl : k - nt < L.length := by show k - nt < (ownList (outL sig) cs).length; omega
      obtain ⟨⟨v, e, sz⟩, hj⟩ : ∃ x, L[k - nt]? = some x := ⟨_, List.getElem?_eq_getElem hjl⟩
      obtain ⟨e1, e2, e3⟩ := htok _ _ _ _ hj; rw [show nt + (k - nt) = k by omega] at e1 e2 e3; obtain ⟨n, xs, h3, h4⟩ := hr.own.own _ _ _ _ hj; refine ⟨.inr ⟨h1, by rw [d5]; exact h2⟩, n, xs, by rw [e1, e2, e3]; exact ownsRow_base h3 (by omega), ?_, fun x hx => ?_⟩
      rotate_left 1
      · rw [hdn] at hx; exact absurd (h.dk k x hx) (hf k h1 h2)
      rw [e1, e3]; intro b hb; refine ⟨?_, h4 b hb⟩
      have hx : ∃ (j : Nat) (x : Value × TypeId × Nat), L[j]? = some x ∧ x.1.ownBlock = some b := ⟨_, _, hj, hb⟩
      simp only [g', dif_pos hx, oi, Res.tok.injEq]; obtain ⟨x, hx1, hx2⟩ := hx.choose_spec; have := hr.own.dis _ _ _ _ b hx1 hj hx2 hb
      omega
  · rw [hB0]; have := h.bel
    rw [hB0] at this; exact this.trans hr.bel
  · have hks : ∀ q ∈ sig.ars, B.ks q.1 := fun q hq => by
      obtain ⟨x, hx⟩ := hars q hq; exact h.hl.ark _ _ hx
    have haa : ∀ k, (α.upd δ nb nt).ar k = match look (arNew i sig.ars) k with | some x => some x | none => α.ar k := fun k => by simp only [AS.upd, d7]; rfl
    have hget : ∀ (m : Nat) (k : Nat) (T : ArT), sig.ars[m]? = some (k, T) → ∃ d, as[m]? = some d ∧ ArAt p' om' w' (k, T) d ∧ nth ρ (i + m) = some d := by
      intro m k T hm; have key : ∀ (l : List (Nat × ArT)) (ds : List D), All2 (ArAt p' om' w') l ds → ∀ m : Nat, l[m]? = some (k, T) → ∃ d, ds[m]? = some d ∧ ArAt p' om' w' (k, T) d := by
        intro l ds hl; induction hl with
        | nil => intro m hm; simp at hm
        | cons h1 _ ih =>
          intro m hm; cases m with
          | zero => simp only [List.getElem?_cons_zero, oi] at hm; subst hm; exact ⟨_, rfl, h1⟩
          | succ m => obtain ⟨d, k1, k2⟩ := ih m (by simpa using hm); exact ⟨d, by simpa using k1, k2⟩
      obtain ⟨d, k1, k2⟩ := key _ _ hras m hm; exact ⟨d, k1, k2, hn m d (by rw [hrs, List.getElem?_append_right (by omega), hl1, Nat.add_sub_cancel_left]; exact k1)⟩
    refine { b0 := h.hl.b0, om := fun b r hb => ?_, owb := fun b r hb => (hback b r hb).1, fr := fun b hb hm => ?_, p0m := fun b o hp => ?_, adm := fun k j b hp => (had k j b).1 (h.hl.adm k j b hp), adf := fun k j b hk hp => ?_, ark := fun k x hx => ?_, ar := ⟨fun k T x hk => ?_, fun k xv β hk => ?_⟩ }
    · rcases (hback b r hb).2 with ⟨r', h1⟩ | h1
      · exact h.hl.om b r' h1
      · exact .inr (Nat.le_trans h.bel.size h1)
    · obtain ⟨h1, h2⟩ := h.hl.fr b hb hm; have hno : labs sig.ars g.ow b = none := labs_none fun r' hr' => absurd (h.hl.om b r' hr') (by rintro (h | h); exact hm h; omega)
      obtain ⟨k1, k2⟩ := hr.fr b (Nat.lt_of_lt_of_le hb h.bel.size) hno
      exact ⟨k1.trans h1, fun o => (k2 o).trans (h2 o)⟩
    · obtain ⟨h1, h2⟩ := h.hl.p0m b o hp; obtain ⟨h3, h4⟩ := hr.mem b o h1; exact ⟨h3, h4.trans h2⟩
    · refine h.hl.adf k j b hk ((had k j b).2 (fun q hq e => ?_) hp)
      subst e; exact hk (hks q hq)
    · rw [haa] at hx; rcases arNew_look sig.ars i k with ⟨h1, h2⟩ | ⟨m, T, h1, h2⟩
      · rw [h1] at hx; exact h.hl.ark k x hx
      · exact hks _ (List.mem_of_getElem? h2)
    · rw [haa] at hk; rcases arNew_look sig.ars i k with ⟨h1, h2⟩ | ⟨m, T', h1, h2⟩
      · rw [h1] at hk; obtain ⟨xs, f1, f2, f3⟩ := (h.hl.ar.ars k T x hk).ex
        have hadk : ∀ j b, p'.ad k j b → g.p.ad k j b := fun j b hp => (had k j b).2 h2 hp
        refine ⟨xs, f1, fun j b hp => ⟨(f2 j b (hadk j b hp)).1, fun b' hb' => (f2 j b (hadk j b hp)).2 b' (hadk j b' hb')⟩, fun j y hy => ?_⟩
        obtain ⟨b, q1, q2⟩ := f3 j y hy; refine ⟨b, (had k j b).1 q1, q2.imp (fun h => h) fun q2 => q2.mono1 hle fun b r hb hr' => ?_⟩
        obtain ⟨k1, k2, k3⟩ := hkeep b r hb (hnotA h2 r hr')
        exact ⟨k1, k2, fun o hp => (k3 o).1 hp⟩
      · rw [h1] at hk; simp only [oi, Prod.mk.injEq] at hk; obtain ⟨rfl, rfl⟩ := hk; obtain ⟨d, k1, ⟨xs, hd, f2, f3⟩, k3⟩ := hget m k T' h2; subst hd; refine ⟨xs, k3, f2, fun j y hy => ?_⟩
        obtain ⟨b, q1, q2⟩ := f3 j y hy; exact ⟨b, q1, .inr (q2.relab1 (g' := g') (fun b hb => hlabs b _ hb) (fun b c hb => hlabs b _ hb) (fun _ _ => Iff.rfl) (fun _ _ _ h => h))⟩
    · have hk2 : α.out k = some (xv, β) := hk
      have hnk : ∀ q ∈ sig.ars, q.1 ≠ k := by
        rintro q hq rfl
        rw [hout q hq] at hk2; cases hk2
      obtain ⟨⟨row, z4⟩, j, z5, z6, z7⟩ := h.hl.ar.outs k xv β hk2; refine ⟨⟨row, by simp only [AS.upd, d1, d2]; exact z4⟩, j, z5, (had k j _).1 z6, fun b hb => z7 b ((had k j b).2 hnk hb)⟩

theorem arArgs_rep [Arn] (h : RelG B ρ α a bs w g) {st : SS} (har : ∀ k x, st.arAt k = some x → α.ar k = some x) (hout : ∀ k, α.out k = st.outAt k) : ∀ (l : List (Nat × ArT)) (xs : List A), arArgs st l = some xs → ∀ (m : List (Nat × ArT)), (∀ q ∈ l, q ∈ m) →
    ∃ das, evs ρ xs = some das ∧ All2 (ArAt g.p (labs m g.ow) w) l das ∧ ∀ q ∈ l, (∃ x, α.ar q.1 = some (q.2, x)) ∧ α.out q.1 = none
  | [], xs, h1, m, hm => by
    simp only [arArgs, oi] at h1; subst h1; exact ⟨[], rfl, .nil, by simp⟩
  | (k, T) :: r, xs, h1, m, hm => by
    simp only [arArgs] at h1; split at h1
    · rename_i T' x xs' e1 e2 e3; split at h1
      · rename_i eT; simp only [beq_iff_eq] at eT; subst eT; simp only [oi] at h1; subst h1; obtain ⟨das, q1, q2, q3⟩ := arArgs_rep h har hout r xs' e3 m fun q hq => hm q (by simp [hq])
        have ha := har k _ e1
        have ho : α.out k = none := by rw [hout, e2]
        obtain ⟨ys, f1, f2, f3⟩ := (h.hl.ar.ars k _ x ha).ex
        refine ⟨(⟨.sl _, ys⟩ : D) :: das, by unfold evs; rw [f1]; simp only [q1], .cons ⟨ys, rfl, f2, fun j y hy => ?_⟩ q2, fun q hq => ?_⟩
        · obtain ⟨b, z1, z2⟩ := f3 j y hy; refine ⟨b, z1, ?_⟩
          rcases z2 with ⟨xv, β, z, _⟩ | z2
          · rw [ho] at z; cases z
          · have hk : ∃ q ∈ m, q.1 = k := ⟨_, hm (k, T') (by simp), rfl⟩
            obtain ⟨q, hq, rfl⟩ := hk; exact z2.relab1 (g' := gOf g.p (labs m g.ow)) (fun b hb => labs_some.2 ⟨hb, q, hq, .inl ⟨j, rfl⟩⟩) (fun b c hb => labs_some.2 ⟨hb, q, hq, .inr ⟨j, c, rfl⟩⟩) (fun _ _ => Iff.rfl) (fun _ _ _ h => h)
        · rcases List.mem_cons.1 hq with rfl | hq
          · exact ⟨⟨x, ha⟩, ho⟩
          · exact q3 q hq
      · cases h1
    · cases h1
end
end Go.Proofs.Ytmglkddddpipgaa.Sx
