/- Facts on the types of this seat, printed by a program of ours. -/
import Derived.Test.YtfehhihllenjiaaC4
import Derived.Test.YtfehhihllenjiaaProg
import Derived.KernelRfl
set_option linter.all false
namespace Go.Proofs.Ytfehhihllenjiaa
open Go.Proofs
section
variable {h : Heap} {b i o n : Nat}
theorem inf1 : Try.prog.info? 1 = some Try.t1 := by kernel_rfl
theorem ld1 : evLoad Try.prog 1 (.pointer (some ⟨b, i, none⟩)) h = cellV (h.obj b) i := ld_scalar Try.underlying1 inf1 rfl
theorem st1 (f : Fn) (x y : Array Value) : evStore Try.prog 1 (.pointer (some ⟨b, i, none⟩)) (.func f x y) h = put1 h b i (.func f x y) (h.obj b) := st_one inf1 rfl rfl rfl
theorem al1 : evAlloc Try.prog 1 h = some (.pointer (some ⟨h.nx, 0, none⟩), newRowH h .rw 1 ([.nilFunc])) := al_eq inf1 rfl
theorem inf2 : Try.prog.info? 2 = some Try.t2 := by kernel_rfl
theorem ld2 : evLoad Try.prog 2 (.pointer (some ⟨b, i, none⟩)) h = cellV (h.obj b) i := ld_scalar Try.underlying2 inf2 rfl
theorem st2 (x : Nat) : evStore Try.prog 2 (.pointer (some ⟨b, i, none⟩)) (iv x) h = put1 h b i (iv x) (h.obj b) := st_one inf2 rfl rfl rfl
theorem al2 : evAlloc Try.prog 2 h = some (.pointer (some ⟨h.nx, 0, none⟩), newRowH h .rw 1 ([iv 0])) := al_eq inf2 rfl
theorem inf3 : Try.prog.info? 3 = some Try.t3 := by kernel_rfl
theorem ld3 : evLoad Try.prog 3 (.pointer (some ⟨b, i, none⟩)) h = cellV (h.obj b) i := ld_scalar Try.underlying3 inf3 rfl
theorem st3 (x : Nat) : evStore Try.prog 3 (.pointer (some ⟨b, i, none⟩)) (iv x) h = put1 h b i (iv x) (h.obj b) := st_one inf3 rfl rfl rfl
theorem al3 : evAlloc Try.prog 3 h = some (.pointer (some ⟨h.nx, 0, none⟩), newRowH h .rw 1 ([iv 0])) := al_eq inf3 rfl
theorem inf4 : Try.prog.info? 4 = some Try.t4 := by kernel_rfl
theorem ld4 : evLoad Try.prog 4 (.pointer (some ⟨b, i, none⟩)) h = cellV (h.obj b) i := ld_scalar Try.underlying4 inf4 rfl
theorem st4 (x : Bool) : evStore Try.prog 4 (.pointer (some ⟨b, i, none⟩)) (.bool x) h = put1 h b i (.bool x) (h.obj b) := st_one inf4 rfl rfl rfl
theorem al4 : evAlloc Try.prog 4 h = some (.pointer (some ⟨h.nx, 0, none⟩), newRowH h .rw 1 ([.bool false])) := al_eq inf4 rfl
theorem inf5 : Try.prog.info? 5 = some Try.t5 := by kernel_rfl
theorem ld5 : evLoad Try.prog 5 (.pointer (some ⟨b, i, none⟩)) h = cellV (h.obj b) i := ld_scalar Try.underlying5 inf5 rfl
theorem st5 (x : BitVec 8) : evStore Try.prog 5 (.pointer (some ⟨b, i, none⟩)) (w8 x) h = put1 h b i (w8 x) (h.obj b) := st_one inf5 rfl rfl rfl
theorem al5 : evAlloc Try.prog 5 h = some (.pointer (some ⟨h.nx, 0, none⟩), newRowH h .rw 1 ([w8 0#8])) := al_eq inf5 rfl
theorem inf9 : Try.prog.info? 9 = some Try.t9 := by kernel_rfl
theorem ld9 : evLoad Try.prog 9 (.pointer (some ⟨b, i, none⟩)) h = cellV (h.obj b) i := ld_scalar Try.underlying9 inf9 rfl
theorem st9 (x : ByteArray) : evStore Try.prog 9 (.pointer (some ⟨b, i, none⟩)) (.string x) h = put1 h b i (.string x) (h.obj b) := st_one inf9 rfl rfl rfl
theorem al9 : evAlloc Try.prog 9 h = some (.pointer (some ⟨h.nx, 0, none⟩), newRowH h .rw 1 ([.string ⟨#[]⟩])) := al_eq inf9 rfl
theorem len9 {s : ByteArray} : evLenB Try.prog 9 (.string s) = some (iv s.size) := len_str Try.underlying9
theorem inf22 : Try.prog.info? 22 = some Try.t22 := by kernel_rfl
theorem ld22 : evLoad Try.prog 22 (.pointer (some ⟨b, i, none⟩)) h = cellV (h.obj b) i := ld_scalar Try.underlying22 inf22 rfl
theorem st22 (x : BitVec 32) : evStore Try.prog 22 (.pointer (some ⟨b, i, none⟩)) (w32 x) h = put1 h b i (w32 x) (h.obj b) := st_one inf22 rfl rfl rfl
theorem al22 : evAlloc Try.prog 22 h = some (.pointer (some ⟨h.nx, 0, none⟩), newRowH h .rw 1 ([w32 0#32])) := al_eq inf22 rfl
theorem inf30 : Try.prog.info? 30 = some Try.t30 := by kernel_rfl
theorem ld30 : evLoad Try.prog 30 (.pointer (some ⟨b, i, none⟩)) h = cutV (h.obj b) i 32 := ld_agg Try.underlying30 inf30 rfl rfl
theorem st30 {cs : List Value} : evStore Try.prog 30 (.pointer (some ⟨b, i, none⟩)) (.agg ⟨cs⟩) h = putV h b i 32 cs (h.obj b) := st_agg inf30 rfl
theorem al30 : evAlloc Try.prog 30 h = some (.pointer (some ⟨h.nx, 0, none⟩), newRowH h .rw 1 (List.replicate 32 (w8 0#8))) := al_eq inf30 rfl
theorem ia30 (hn : n < 32) : evIndexAddr Try.prog 30 (.pointer (some ⟨b, o, none⟩)) (iv n) = some (.pointer (some ⟨b, o + n * 1, none⟩)) := ia_arr Try.underlying30 inf5 rfl hn
theorem len30 {x : Value} : evLenB Try.prog 30 x = some (iv 32) := len_arr Try.underlying30
theorem sla30 {lo hh : Nat} (h1 : lo ≤ hh) (h2 : hh ≤ 32) (h3 : lo < 32) : evSlice Try.prog 30 (.pointer (some ⟨b, i, none⟩)) (some (iv lo)) (some (iv hh)) none h = some (.slice (some ⟨b, i + lo * 1, none⟩) (hh - lo) (32 - lo)) := sla Try.underlying30 inf5 rfl h1 h2 h3
theorem slh30 {hh : Nat} (h2 : hh ≤ 32) : evSlice Try.prog 30 (.pointer (some ⟨b, i, none⟩)) none (some (iv hh)) none h = some (.slice (some ⟨b, i, none⟩) hh 32) := slh Try.underlying30 inf5 rfl h2 (by decide)
theorem sll30 {lo : Nat} (h1 : lo < 32) : evSlice Try.prog 30 (.pointer (some ⟨b, i, none⟩)) (some (iv lo)) none none h = some (.slice (some ⟨b, i + lo * 1, none⟩) (32 - lo) (32 - lo)) := sll Try.underlying30 inf5 rfl h1
theorem sln30 : evSlice Try.prog 30 (.pointer (some ⟨b, i, none⟩)) none none none h = some (.slice (some ⟨b, i, none⟩) 32 32) := sln Try.underlying30 inf5 (by decide)
theorem ix30 {cs : List Value} (hn : n < 32) : evIndex Try.prog 30 (.agg ⟨cs⟩) (iv n) = cs[n]? := ix_arr Try.underlying30 Try.underlying5 rfl inf5 rfl hn
theorem inf32 : Try.prog.info? 32 = some Try.t32 := by kernel_rfl
theorem ld32 : evLoad Try.prog 32 (.pointer (some ⟨b, i, none⟩)) h = cutV (h.obj b) i 12 := ld_agg Try.underlying32 inf32 rfl rfl
theorem st32 {cs : List Value} : evStore Try.prog 32 (.pointer (some ⟨b, i, none⟩)) (.agg ⟨cs⟩) h = putV h b i 12 cs (h.obj b) := st_agg inf32 rfl
theorem al32 : evAlloc Try.prog 32 h = some (.pointer (some ⟨h.nx, 0, none⟩), newRowH h .rw 1 (List.replicate 12 (w8 0#8))) := al_eq inf32 rfl
theorem ia32 (hn : n < 12) : evIndexAddr Try.prog 32 (.pointer (some ⟨b, o, none⟩)) (iv n) = some (.pointer (some ⟨b, o + n * 1, none⟩)) := ia_arr Try.underlying32 inf5 rfl hn
theorem len32 {x : Value} : evLenB Try.prog 32 x = some (iv 12) := len_arr Try.underlying32
theorem sla32 {lo hh : Nat} (h1 : lo ≤ hh) (h2 : hh ≤ 12) (h3 : lo < 12) : evSlice Try.prog 32 (.pointer (some ⟨b, i, none⟩)) (some (iv lo)) (some (iv hh)) none h = some (.slice (some ⟨b, i + lo * 1, none⟩) (hh - lo) (12 - lo)) := sla Try.underlying32 inf5 rfl h1 h2 h3
theorem slh32 {hh : Nat} (h2 : hh ≤ 12) : evSlice Try.prog 32 (.pointer (some ⟨b, i, none⟩)) none (some (iv hh)) none h = some (.slice (some ⟨b, i, none⟩) hh 12) := slh Try.underlying32 inf5 rfl h2 (by decide)
theorem sll32 {lo : Nat} (h1 : lo < 12) : evSlice Try.prog 32 (.pointer (some ⟨b, i, none⟩)) (some (iv lo)) none none h = some (.slice (some ⟨b, i + lo * 1, none⟩) (12 - lo) (12 - lo)) := sll Try.underlying32 inf5 rfl h1
theorem sln32 : evSlice Try.prog 32 (.pointer (some ⟨b, i, none⟩)) none none none h = some (.slice (some ⟨b, i, none⟩) 12 12) := sln Try.underlying32 inf5 (by decide)
theorem ix32 {cs : List Value} (hn : n < 12) : evIndex Try.prog 32 (.agg ⟨cs⟩) (iv n) = cs[n]? := ix_arr Try.underlying32 Try.underlying5 rfl inf5 rfl hn
theorem inf33 : Try.prog.info? 33 = some Try.t33 := by kernel_rfl
theorem ld33 : evLoad Try.prog 33 (.pointer (some ⟨b, i, none⟩)) h = cutV (h.obj b) i 64 := ld_agg Try.underlying33 inf33 rfl rfl
theorem st33 {cs : List Value} : evStore Try.prog 33 (.pointer (some ⟨b, i, none⟩)) (.agg ⟨cs⟩) h = putV h b i 64 cs (h.obj b) := st_agg inf33 rfl
theorem al33 : evAlloc Try.prog 33 h = some (.pointer (some ⟨h.nx, 0, none⟩), newRowH h .rw 1 (List.replicate 64 (w8 0#8))) := al_eq inf33 rfl
theorem ia33 (hn : n < 64) : evIndexAddr Try.prog 33 (.pointer (some ⟨b, o, none⟩)) (iv n) = some (.pointer (some ⟨b, o + n * 1, none⟩)) := ia_arr Try.underlying33 inf5 rfl hn
theorem len33 {x : Value} : evLenB Try.prog 33 x = some (iv 64) := len_arr Try.underlying33
theorem sla33 {lo hh : Nat} (h1 : lo ≤ hh) (h2 : hh ≤ 64) (h3 : lo < 64) : evSlice Try.prog 33 (.pointer (some ⟨b, i, none⟩)) (some (iv lo)) (some (iv hh)) none h = some (.slice (some ⟨b, i + lo * 1, none⟩) (hh - lo) (64 - lo)) := sla Try.underlying33 inf5 rfl h1 h2 h3
theorem slh33 {hh : Nat} (h2 : hh ≤ 64) : evSlice Try.prog 33 (.pointer (some ⟨b, i, none⟩)) none (some (iv hh)) none h = some (.slice (some ⟨b, i, none⟩) hh 64) := slh Try.underlying33 inf5 rfl h2 (by decide)
theorem sll33 {lo : Nat} (h1 : lo < 64) : evSlice Try.prog 33 (.pointer (some ⟨b, i, none⟩)) (some (iv lo)) none none h = some (.slice (some ⟨b, i + lo * 1, none⟩) (64 - lo) (64 - lo)) := sll Try.underlying33 inf5 rfl h1
theorem sln33 : evSlice Try.prog 33 (.pointer (some ⟨b, i, none⟩)) none none none h = some (.slice (some ⟨b, i, none⟩) 64 64) := sln Try.underlying33 inf5 (by decide)
theorem ix33 {cs : List Value} (hn : n < 64) : evIndex Try.prog 33 (.agg ⟨cs⟩) (iv n) = cs[n]? := ix_arr Try.underlying33 Try.underlying5 rfl inf5 rfl hn
theorem inf38 : Try.prog.info? 38 = some Try.t38 := by kernel_rfl
theorem ld38 : evLoad Try.prog 38 (.pointer (some ⟨b, i, none⟩)) h = cellV (h.obj b) i := ld_scalar Try.underlying38 inf38 rfl
theorem st38 (a : Option Addr) (m c : Nat) : evStore Try.prog 38 (.pointer (some ⟨b, i, none⟩)) (.slice a m c) h = put1 h b i (.slice a m c) (h.obj b) := st_one inf38 rfl rfl rfl
theorem al38 : evAlloc Try.prog 38 h = some (.pointer (some ⟨h.nx, 0, none⟩), newRowH h .rw 1 ([.slice none 0 0])) := al_eq inf38 rfl
theorem ia38 {len c : Nat} (hn : n < len) : evIndexAddr Try.prog 38 (.slice (some ⟨b, o, none⟩) len c) (iv n) = some (.pointer (some ⟨b, o + n * 1, none⟩)) := ia_sl Try.underlying38 inf5 rfl hn
theorem len38 {a : Option Addr} {c : Nat} : evLenB Try.prog 38 (.slice a n c) = some (iv n) := len_sl Try.underlying38
theorem S38len {v : Value} {m : Nat} {cs : List Value} (s : Sl 1 h v m cs) : evLenB Try.prog 38 v = some (iv m) := sl_len Try.underlying38 s
theorem S38ia {v : Value} {m : Nat} {cs : List Value} (s : Sl 1 h v m cs) (hn : i < m) : evIndexAddr Try.prog 38 v (iv i) = some (ptrAt 1 v i) := sl_ia Try.underlying38 inf5 rfl s hn
theorem S38h {v : Value} {m : Nat} {cs : List Value} {hh : Nat} {H : Heap} (s : Sl 1 h v m cs) (f : Fr h.nx h H) (h2 : hh ≤ m) : evSlice Try.prog 38 v none (some (iv hh)) none H = some (subS 1 0 hh none v) := sl_h Try.underlying38 inf5 rfl (s.fr0 f) h2
theorem S38l {v : Value} {m : Nat} {cs : List Value} {l : Nat} {H : Heap} (s : Sl 1 h v m cs) (f : Fr h.nx h H) (h2 : l ≤ m) : evSlice Try.prog 38 v (some (iv l)) none none H = some (subS 1 l m none v) := sl_l Try.underlying38 inf5 rfl (s.fr0 f) h2
theorem S38lh {v : Value} {m : Nat} {cs : List Value} {l hh : Nat} {H : Heap} (s : Sl 1 h v m cs) (f : Fr h.nx h H) (h1 : l ≤ hh) (h2 : hh ≤ m) : evSlice Try.prog 38 v (some (iv l)) (some (iv hh)) none H = some (subS 1 l hh none v) := sl_slh Try.underlying38 inf5 rfl (s.fr0 f) h1 h2
theorem S38n {v : Value} {m : Nat} {cs : List Value} {H : Heap} (s : Sl 1 h v m cs) (f : Fr h.nx h H) : evSlice Try.prog 38 v none none none H = some (subS 1 0 m none v) := sl_n Try.underlying38 inf5 rfl (s.fr0 f)
theorem S38hm {v : Value} {m : Nat} {cs : List Value} {hh mm : Nat} {H : Heap} (s : Sl 1 h v m cs) (f : Fr h.nx h H) (h2 : hh ≤ m) (h3 : hh ≤ mm) (h4 : mm ≤ m) : evSlice Try.prog 38 v none (some (iv hh)) (some (iv mm)) H = some (subS 1 0 hh (some mm) v) := sl_hm Try.underlying38 inf5 rfl (s.fr0 f) h2 h3 h4
theorem S38lhm {v : Value} {m : Nat} {cs : List Value} {l hh mm : Nat} {H : Heap} (s : Sl 1 h v m cs) (f : Fr h.nx h H) (h1 : l ≤ hh) (h2 : hh ≤ m) (h3 : hh ≤ mm) (h4 : mm ≤ m) : evSlice Try.prog 38 v (some (iv l)) (some (iv hh)) (some (iv mm)) H = some (subS 1 l hh (some mm) v) := sl_lhm Try.underlying38 inf5 rfl (s.fr0 f) h1 h2 h3 h4
theorem S38ld {v : Value} {xs : List (BitVec 8)} {H : Heap} (s : By h v xs) (f : Fr h.nx h H) (hn : i < xs.length) : evLoad Try.prog 5 (ptrAt 1 v i) H = some (w8 (xs.getD i 0#8)) := by_ldF Try.underlying5 inf5 s f hn
theorem S38str {v : Value} {xs : List (BitVec 8)} {H : Heap} (s : By h v xs) (f : Fr h.nx h H) : evConvert Try.prog 38 9 v H = some (.string (bstr xs), H) := by_strF Try.underlying38 Try.underlying9 Try.underlying5 s f
theorem E38 : ElOk Try.prog 38 5 Try.t5 1 (w8 0#8) := ⟨Try.underlying38, inf5, rfl, rfl, rfl, by decide, by decide⟩
theorem bs0_38 : evBuildSlice Try.prog 38 0 [] h = some (emptyS, h) := bs_0 E38
theorem bs1_38 (x : BitVec 8) : evBuildSlice Try.prog 38 1 [(0, w8 x)] h = some (.slice (some ⟨h.nx, 0, none⟩) 1 1, newRowH h .rw 1 [w8 x]) := bs_1 E38 rfl
theorem bs2_38 (x y : BitVec 8) : evBuildSlice Try.prog 38 2 [(0, w8 x), (1, w8 y)] h = some (.slice (some ⟨h.nx, 0, none⟩) 2 2, newRowH h .rw 1 [w8 x, w8 y]) := bs_2 E38 rfl rfl
theorem bs4_38 (x y z u : BitVec 8) : evBuildSlice Try.prog 38 4 [(0, w8 x), (1, w8 y), (2, w8 z), (3, w8 u)] h = some (.slice (some ⟨h.nx, 0, none⟩) 4 4, newRowH h .rw 1 [w8 x, w8 y, w8 z, w8 u]) := bs_4 E38 rfl rfl rfl rfl
theorem inf56 : Try.prog.info? 56 = some Try.t56 := by kernel_rfl
theorem ld56 : evLoad Try.prog 56 (.pointer (some ⟨b, i, none⟩)) h = cutV (h.obj b) i 16 := ld_agg Try.underlying56 inf56 rfl rfl
theorem st56 {cs : List Value} : evStore Try.prog 56 (.pointer (some ⟨b, i, none⟩)) (.agg ⟨cs⟩) h = putV h b i 16 cs (h.obj b) := st_agg inf56 rfl
theorem al56 : evAlloc Try.prog 56 h = some (.pointer (some ⟨h.nx, 0, none⟩), newRowH h .rw 1 (List.replicate 16 (w8 0#8))) := al_eq inf56 rfl
theorem ia56 (hn : n < 16) : evIndexAddr Try.prog 56 (.pointer (some ⟨b, o, none⟩)) (iv n) = some (.pointer (some ⟨b, o + n * 1, none⟩)) := ia_arr Try.underlying56 inf5 rfl hn
theorem len56 {x : Value} : evLenB Try.prog 56 x = some (iv 16) := len_arr Try.underlying56
theorem sla56 {lo hh : Nat} (h1 : lo ≤ hh) (h2 : hh ≤ 16) (h3 : lo < 16) : evSlice Try.prog 56 (.pointer (some ⟨b, i, none⟩)) (some (iv lo)) (some (iv hh)) none h = some (.slice (some ⟨b, i + lo * 1, none⟩) (hh - lo) (16 - lo)) := sla Try.underlying56 inf5 rfl h1 h2 h3
theorem slh56 {hh : Nat} (h2 : hh ≤ 16) : evSlice Try.prog 56 (.pointer (some ⟨b, i, none⟩)) none (some (iv hh)) none h = some (.slice (some ⟨b, i, none⟩) hh 16) := slh Try.underlying56 inf5 rfl h2 (by decide)
theorem sll56 {lo : Nat} (h1 : lo < 16) : evSlice Try.prog 56 (.pointer (some ⟨b, i, none⟩)) (some (iv lo)) none none h = some (.slice (some ⟨b, i + lo * 1, none⟩) (16 - lo) (16 - lo)) := sll Try.underlying56 inf5 rfl h1
theorem sln56 : evSlice Try.prog 56 (.pointer (some ⟨b, i, none⟩)) none none none h = some (.slice (some ⟨b, i, none⟩) 16 16) := sln Try.underlying56 inf5 (by decide)
theorem ix56 {cs : List Value} (hn : n < 16) : evIndex Try.prog 56 (.agg ⟨cs⟩) (iv n) = cs[n]? := ix_arr Try.underlying56 Try.underlying5 rfl inf5 rfl hn
theorem inf57 : Try.prog.info? 57 = some Try.t57 := by kernel_rfl
theorem ld57 : evLoad Try.prog 57 (.pointer (some ⟨b, i, none⟩)) h = cutV (h.obj b) i 16 := ld_agg Try.underlying57 inf57 rfl rfl
theorem st57 {cs : List Value} : evStore Try.prog 57 (.pointer (some ⟨b, i, none⟩)) (.agg ⟨cs⟩) h = putV h b i 16 cs (h.obj b) := st_agg inf57 rfl
theorem al57 : evAlloc Try.prog 57 h = some (.pointer (some ⟨h.nx, 0, none⟩), newRowH h .rw 1 (List.replicate 16 (w8 0#8))) := al_eq inf57 rfl
theorem ia57 (hn : n < 16) : evIndexAddr Try.prog 57 (.pointer (some ⟨b, o, none⟩)) (iv n) = some (.pointer (some ⟨b, o + n * 1, none⟩)) := ia_arr Try.underlying57 inf5 rfl hn
theorem len57 {x : Value} : evLenB Try.prog 57 x = some (iv 16) := len_arr Try.underlying57
theorem sla57 {lo hh : Nat} (h1 : lo ≤ hh) (h2 : hh ≤ 16) (h3 : lo < 16) : evSlice Try.prog 57 (.pointer (some ⟨b, i, none⟩)) (some (iv lo)) (some (iv hh)) none h = some (.slice (some ⟨b, i + lo * 1, none⟩) (hh - lo) (16 - lo)) := sla Try.underlying57 inf5 rfl h1 h2 h3
theorem slh57 {hh : Nat} (h2 : hh ≤ 16) : evSlice Try.prog 57 (.pointer (some ⟨b, i, none⟩)) none (some (iv hh)) none h = some (.slice (some ⟨b, i, none⟩) hh 16) := slh Try.underlying57 inf5 rfl h2 (by decide)
theorem sll57 {lo : Nat} (h1 : lo < 16) : evSlice Try.prog 57 (.pointer (some ⟨b, i, none⟩)) (some (iv lo)) none none h = some (.slice (some ⟨b, i + lo * 1, none⟩) (16 - lo) (16 - lo)) := sll Try.underlying57 inf5 rfl h1
theorem sln57 : evSlice Try.prog 57 (.pointer (some ⟨b, i, none⟩)) none none none h = some (.slice (some ⟨b, i, none⟩) 16 16) := sln Try.underlying57 inf5 (by decide)
theorem ix57 {cs : List Value} (hn : n < 16) : evIndex Try.prog 57 (.agg ⟨cs⟩) (iv n) = cs[n]? := ix_arr Try.underlying57 Try.underlying5 rfl inf5 rfl hn
theorem inf66 : Try.prog.info? 66 = some Try.t66 := by kernel_rfl
theorem ld66 : evLoad Try.prog 66 (.pointer (some ⟨b, i, none⟩)) h = cellV (h.obj b) i := ld_scalar Try.underlying66 inf66 rfl
theorem st66 (x : Nat) : evStore Try.prog 66 (.pointer (some ⟨b, i, none⟩)) (iv x) h = put1 h b i (iv x) (h.obj b) := st_one inf66 rfl rfl rfl
theorem al66 : evAlloc Try.prog 66 h = some (.pointer (some ⟨h.nx, 0, none⟩), newRowH h .rw 1 ([iv 0])) := al_eq inf66 rfl
theorem inf74 : Try.prog.info? 74 = some Try.t74 := by kernel_rfl
theorem ld74 : evLoad Try.prog 74 (.pointer (some ⟨b, i, none⟩)) h = cutV (h.obj b) i 45 := ld_agg Try.underlying74 inf74 rfl rfl
theorem st74 {cs : List Value} : evStore Try.prog 74 (.pointer (some ⟨b, i, none⟩)) (.agg ⟨cs⟩) h = putV h b i 45 cs (h.obj b) := st_agg inf74 rfl
theorem al74 : evAlloc Try.prog 74 h = some (.pointer (some ⟨h.nx, 0, none⟩), newRowH h .rw 1 ([w8 0#8, w8 0#8, w8 0#8, w8 0#8, w8 0#8, w8 0#8, w8 0#8, w8 0#8, w8 0#8, w8 0#8, w8 0#8, w8 0#8, w8 0#8, w8 0#8, w8 0#8, w8 0#8, w8 0#8, w8 0#8, w8 0#8, w8 0#8, w8 0#8, w8 0#8, w8 0#8, w8 0#8, w8 0#8, w8 0#8, w8 0#8, w8 0#8, w8 0#8, w8 0#8, w8 0#8, w8 0#8, w8 0#8, w8 0#8, w8 0#8, w8 0#8, w8 0#8, w8 0#8, w8 0#8, w8 0#8, w8 0#8, w8 0#8, w8 0#8, w8 0#8, .slice none 0 0])) := al_eq inf74 rfl
theorem fa74_0 : evFieldAddr Try.prog 74 (.pointer (some ⟨b, i, none⟩)) 0 = some (.pointer (some ⟨b, i + 0, none⟩)) := fa_eq Try.underlying74 rfl inf30 rfl (n := 32) rfl rfl
theorem fa74_1 : evFieldAddr Try.prog 74 (.pointer (some ⟨b, i, none⟩)) 1 = some (.pointer (some ⟨b, i + 32, none⟩)) := fa_eq Try.underlying74 rfl inf32 rfl (n := 12) rfl rfl
theorem fa74_2 : evFieldAddr Try.prog 74 (.pointer (some ⟨b, i, none⟩)) 2 = some (.pointer (some ⟨b, i + 44, none⟩)) := fa_eq Try.underlying74 rfl inf38 rfl (n := 1) rfl rfl
theorem inf83 : Try.prog.info? 83 = some Try.t83 := by kernel_rfl
theorem ld83 : evLoad Try.prog 83 (.pointer (some ⟨b, i, none⟩)) h = cutV (h.obj b) i 16 := ld_agg Try.underlying83 inf83 rfl rfl
theorem st83 {cs : List Value} : evStore Try.prog 83 (.pointer (some ⟨b, i, none⟩)) (.agg ⟨cs⟩) h = putV h b i 16 cs (h.obj b) := st_agg inf83 rfl
theorem al83 : evAlloc Try.prog 83 h = some (.pointer (some ⟨h.nx, 0, none⟩), newRowH h .rw 1 (List.replicate 16 (w32 0#32))) := al_eq inf83 rfl
theorem ia83 (hn : n < 16) : evIndexAddr Try.prog 83 (.pointer (some ⟨b, o, none⟩)) (iv n) = some (.pointer (some ⟨b, o + n * 1, none⟩)) := ia_arr Try.underlying83 inf22 rfl hn
theorem len83 {x : Value} : evLenB Try.prog 83 x = some (iv 16) := len_arr Try.underlying83
theorem sla83 {lo hh : Nat} (h1 : lo ≤ hh) (h2 : hh ≤ 16) (h3 : lo < 16) : evSlice Try.prog 83 (.pointer (some ⟨b, i, none⟩)) (some (iv lo)) (some (iv hh)) none h = some (.slice (some ⟨b, i + lo * 1, none⟩) (hh - lo) (16 - lo)) := sla Try.underlying83 inf22 rfl h1 h2 h3
theorem slh83 {hh : Nat} (h2 : hh ≤ 16) : evSlice Try.prog 83 (.pointer (some ⟨b, i, none⟩)) none (some (iv hh)) none h = some (.slice (some ⟨b, i, none⟩) hh 16) := slh Try.underlying83 inf22 rfl h2 (by decide)
theorem sll83 {lo : Nat} (h1 : lo < 16) : evSlice Try.prog 83 (.pointer (some ⟨b, i, none⟩)) (some (iv lo)) none none h = some (.slice (some ⟨b, i + lo * 1, none⟩) (16 - lo) (16 - lo)) := sll Try.underlying83 inf22 rfl h1
theorem sln83 : evSlice Try.prog 83 (.pointer (some ⟨b, i, none⟩)) none none none h = some (.slice (some ⟨b, i, none⟩) 16 16) := sln Try.underlying83 inf22 (by decide)
theorem ix83 {cs : List Value} (hn : n < 16) : evIndex Try.prog 83 (.agg ⟨cs⟩) (iv n) = cs[n]? := ix_arr Try.underlying83 Try.underlying22 rfl inf22 rfl hn
theorem inf84 : Try.prog.info? 84 = some Try.t84 := by kernel_rfl
theorem ld84 : evLoad Try.prog 84 (.pointer (some ⟨b, i, none⟩)) h = cutV (h.obj b) i 16 := ld_agg Try.underlying84 inf84 rfl rfl
theorem st84 {cs : List Value} : evStore Try.prog 84 (.pointer (some ⟨b, i, none⟩)) (.agg ⟨cs⟩) h = putV h b i 16 cs (h.obj b) := st_agg inf84 rfl
theorem al84 : evAlloc Try.prog 84 h = some (.pointer (some ⟨h.nx, 0, none⟩), newRowH h .rw 1 (List.replicate 16 (w32 0#32))) := al_eq inf84 rfl
theorem ia84 (hn : n < 16) : evIndexAddr Try.prog 84 (.pointer (some ⟨b, o, none⟩)) (iv n) = some (.pointer (some ⟨b, o + n * 1, none⟩)) := ia_arr Try.underlying84 inf22 rfl hn
theorem len84 {x : Value} : evLenB Try.prog 84 x = some (iv 16) := len_arr Try.underlying84
theorem sla84 {lo hh : Nat} (h1 : lo ≤ hh) (h2 : hh ≤ 16) (h3 : lo < 16) : evSlice Try.prog 84 (.pointer (some ⟨b, i, none⟩)) (some (iv lo)) (some (iv hh)) none h = some (.slice (some ⟨b, i + lo * 1, none⟩) (hh - lo) (16 - lo)) := sla Try.underlying84 inf22 rfl h1 h2 h3
theorem slh84 {hh : Nat} (h2 : hh ≤ 16) : evSlice Try.prog 84 (.pointer (some ⟨b, i, none⟩)) none (some (iv hh)) none h = some (.slice (some ⟨b, i, none⟩) hh 16) := slh Try.underlying84 inf22 rfl h2 (by decide)
theorem sll84 {lo : Nat} (h1 : lo < 16) : evSlice Try.prog 84 (.pointer (some ⟨b, i, none⟩)) (some (iv lo)) none none h = some (.slice (some ⟨b, i + lo * 1, none⟩) (16 - lo) (16 - lo)) := sll Try.underlying84 inf22 rfl h1
theorem sln84 : evSlice Try.prog 84 (.pointer (some ⟨b, i, none⟩)) none none none h = some (.slice (some ⟨b, i, none⟩) 16 16) := sln Try.underlying84 inf22 (by decide)
theorem ix84 {cs : List Value} (hn : n < 16) : evIndex Try.prog 84 (.agg ⟨cs⟩) (iv n) = cs[n]? := ix_arr Try.underlying84 Try.underlying22 rfl inf22 rfl hn
theorem inf88 : Try.prog.info? 88 = some Try.t88 := by kernel_rfl
theorem ld88 : evLoad Try.prog 88 (.pointer (some ⟨b, i, none⟩)) h = cutV (h.obj b) i 4 := ld_agg Try.underlying88 inf88 rfl rfl
theorem st88 {cs : List Value} : evStore Try.prog 88 (.pointer (some ⟨b, i, none⟩)) (.agg ⟨cs⟩) h = putV h b i 4 cs (h.obj b) := st_agg inf88 rfl
theorem al88 : evAlloc Try.prog 88 h = some (.pointer (some ⟨h.nx, 0, none⟩), newRowH h .rw 1 (List.replicate 4 (iv 0))) := al_eq inf88 rfl
theorem ia88 (hn : n < 4) : evIndexAddr Try.prog 88 (.pointer (some ⟨b, o, none⟩)) (iv n) = some (.pointer (some ⟨b, o + n * 1, none⟩)) := ia_arr Try.underlying88 inf3 rfl hn
theorem len88 {x : Value} : evLenB Try.prog 88 x = some (iv 4) := len_arr Try.underlying88
theorem sla88 {lo hh : Nat} (h1 : lo ≤ hh) (h2 : hh ≤ 4) (h3 : lo < 4) : evSlice Try.prog 88 (.pointer (some ⟨b, i, none⟩)) (some (iv lo)) (some (iv hh)) none h = some (.slice (some ⟨b, i + lo * 1, none⟩) (hh - lo) (4 - lo)) := sla Try.underlying88 inf3 rfl h1 h2 h3
theorem slh88 {hh : Nat} (h2 : hh ≤ 4) : evSlice Try.prog 88 (.pointer (some ⟨b, i, none⟩)) none (some (iv hh)) none h = some (.slice (some ⟨b, i, none⟩) hh 4) := slh Try.underlying88 inf3 rfl h2 (by decide)
theorem sll88 {lo : Nat} (h1 : lo < 4) : evSlice Try.prog 88 (.pointer (some ⟨b, i, none⟩)) (some (iv lo)) none none h = some (.slice (some ⟨b, i + lo * 1, none⟩) (4 - lo) (4 - lo)) := sll Try.underlying88 inf3 rfl h1
theorem sln88 : evSlice Try.prog 88 (.pointer (some ⟨b, i, none⟩)) none none none h = some (.slice (some ⟨b, i, none⟩) 4 4) := sln Try.underlying88 inf3 (by decide)
theorem ix88 {cs : List Value} (hn : n < 4) : evIndex Try.prog 88 (.agg ⟨cs⟩) (iv n) = cs[n]? := ix_arr Try.underlying88 Try.underlying3 rfl inf3 rfl hn
theorem inf89 : Try.prog.info? 89 = some Try.t89 := by kernel_rfl
theorem ld89 : evLoad Try.prog 89 (.pointer (some ⟨b, i, none⟩)) h = cutV (h.obj b) i 32 := ld_agg Try.underlying89 inf89 rfl rfl
theorem st89 {cs : List Value} : evStore Try.prog 89 (.pointer (some ⟨b, i, none⟩)) (.agg ⟨cs⟩) h = putV h b i 32 cs (h.obj b) := st_agg inf89 rfl
theorem al89 : evAlloc Try.prog 89 h = some (.pointer (some ⟨h.nx, 0, none⟩), newRowH h .rw 1 (List.replicate 32 (iv 0))) := al_eq inf89 rfl
theorem ia89 (hn : n < 8) : evIndexAddr Try.prog 89 (.pointer (some ⟨b, o, none⟩)) (iv n) = some (.pointer (some ⟨b, o + n * 4, none⟩)) := ia_arr Try.underlying89 inf88 rfl hn
theorem len89 {x : Value} : evLenB Try.prog 89 x = some (iv 8) := len_arr Try.underlying89
theorem sla89 {lo hh : Nat} (h1 : lo ≤ hh) (h2 : hh ≤ 8) (h3 : lo < 8) : evSlice Try.prog 89 (.pointer (some ⟨b, i, none⟩)) (some (iv lo)) (some (iv hh)) none h = some (.slice (some ⟨b, i + lo * 4, none⟩) (hh - lo) (8 - lo)) := sla Try.underlying89 inf88 rfl h1 h2 h3
theorem slh89 {hh : Nat} (h2 : hh ≤ 8) : evSlice Try.prog 89 (.pointer (some ⟨b, i, none⟩)) none (some (iv hh)) none h = some (.slice (some ⟨b, i, none⟩) hh 8) := slh Try.underlying89 inf88 rfl h2 (by decide)
theorem sll89 {lo : Nat} (h1 : lo < 8) : evSlice Try.prog 89 (.pointer (some ⟨b, i, none⟩)) (some (iv lo)) none none h = some (.slice (some ⟨b, i + lo * 4, none⟩) (8 - lo) (8 - lo)) := sll Try.underlying89 inf88 rfl h1
theorem sln89 : evSlice Try.prog 89 (.pointer (some ⟨b, i, none⟩)) none none none h = some (.slice (some ⟨b, i, none⟩) 8 8) := sln Try.underlying89 inf88 (by decide)
theorem inf93 : Try.prog.info? 93 = some Try.t93 := by kernel_rfl
theorem ld93 : evLoad Try.prog 93 (.pointer (some ⟨b, i, none⟩)) h = cellV (h.obj b) i := ld_scalar Try.underlying93 inf93 rfl
theorem st93 (x : BitVec 64) : evStore Try.prog 93 (.pointer (some ⟨b, i, none⟩)) (w64 x) h = put1 h b i (w64 x) (h.obj b) := st_one inf93 rfl rfl rfl
theorem al93 : evAlloc Try.prog 93 h = some (.pointer (some ⟨h.nx, 0, none⟩), newRowH h .rw 1 ([w64 0#64])) := al_eq inf93 rfl
theorem inf94 : Try.prog.info? 94 = some Try.t94 := by kernel_rfl
theorem ld94 : evLoad Try.prog 94 (.pointer (some ⟨b, i, none⟩)) h = cellV (h.obj b) i := ld_scalar Try.underlying94 inf94 rfl
theorem st94 (x : BitVec 64) : evStore Try.prog 94 (.pointer (some ⟨b, i, none⟩)) (w64 x) h = put1 h b i (w64 x) (h.obj b) := st_one inf94 rfl rfl rfl
theorem al94 : evAlloc Try.prog 94 h = some (.pointer (some ⟨h.nx, 0, none⟩), newRowH h .rw 1 ([w64 0#64])) := al_eq inf94 rfl
theorem inf100 : Try.prog.info? 100 = some Try.t100 := by kernel_rfl
theorem ld100 : evLoad Try.prog 100 (.pointer (some ⟨b, i, none⟩)) h = cellV (h.obj b) i := ld_scalar Try.underlying100 inf100 rfl
theorem st100 (a : Option Addr) : evStore Try.prog 100 (.pointer (some ⟨b, i, none⟩)) (.pointer a) h = put1 h b i (.pointer a) (h.obj b) := st_one inf100 rfl rfl rfl
theorem al100 : evAlloc Try.prog 100 h = some (.pointer (some ⟨h.nx, 0, none⟩), newRowH h .rw 1 ([.pointer none])) := al_eq inf100 rfl
theorem inf102 : Try.prog.info? 102 = some Try.t102 := by kernel_rfl
theorem ld102 : evLoad Try.prog 102 (.pointer (some ⟨b, i, none⟩)) h = cutV (h.obj b) i 2 := ld_agg Try.underlying102 inf102 rfl rfl
theorem st102 {cs : List Value} : evStore Try.prog 102 (.pointer (some ⟨b, i, none⟩)) (.agg ⟨cs⟩) h = putV h b i 2 cs (h.obj b) := st_agg inf102 rfl
theorem al102 : evAlloc Try.prog 102 h = some (.pointer (some ⟨h.nx, 0, none⟩), newRowH h .rw 1 (List.replicate 2 (w64 0#64))) := al_eq inf102 rfl
theorem ia102 (hn : n < 2) : evIndexAddr Try.prog 102 (.pointer (some ⟨b, o, none⟩)) (iv n) = some (.pointer (some ⟨b, o + n * 1, none⟩)) := ia_arr Try.underlying102 inf93 rfl hn
theorem len102 {x : Value} : evLenB Try.prog 102 x = some (iv 2) := len_arr Try.underlying102
theorem sla102 {lo hh : Nat} (h1 : lo ≤ hh) (h2 : hh ≤ 2) (h3 : lo < 2) : evSlice Try.prog 102 (.pointer (some ⟨b, i, none⟩)) (some (iv lo)) (some (iv hh)) none h = some (.slice (some ⟨b, i + lo * 1, none⟩) (hh - lo) (2 - lo)) := sla Try.underlying102 inf93 rfl h1 h2 h3
theorem slh102 {hh : Nat} (h2 : hh ≤ 2) : evSlice Try.prog 102 (.pointer (some ⟨b, i, none⟩)) none (some (iv hh)) none h = some (.slice (some ⟨b, i, none⟩) hh 2) := slh Try.underlying102 inf93 rfl h2 (by decide)
theorem sll102 {lo : Nat} (h1 : lo < 2) : evSlice Try.prog 102 (.pointer (some ⟨b, i, none⟩)) (some (iv lo)) none none h = some (.slice (some ⟨b, i + lo * 1, none⟩) (2 - lo) (2 - lo)) := sll Try.underlying102 inf93 rfl h1
theorem sln102 : evSlice Try.prog 102 (.pointer (some ⟨b, i, none⟩)) none none none h = some (.slice (some ⟨b, i, none⟩) 2 2) := sln Try.underlying102 inf93 (by decide)
theorem ix102 {cs : List Value} (hn : n < 2) : evIndex Try.prog 102 (.agg ⟨cs⟩) (iv n) = cs[n]? := ix_arr Try.underlying102 Try.underlying93 rfl inf93 rfl hn
theorem inf103 : Try.prog.info? 103 = some Try.t103 := by kernel_rfl
theorem ld103 : evLoad Try.prog 103 (.pointer (some ⟨b, i, none⟩)) h = cutV (h.obj b) i 3 := ld_agg Try.underlying103 inf103 rfl rfl
theorem st103 {cs : List Value} : evStore Try.prog 103 (.pointer (some ⟨b, i, none⟩)) (.agg ⟨cs⟩) h = putV h b i 3 cs (h.obj b) := st_agg inf103 rfl
theorem al103 : evAlloc Try.prog 103 h = some (.pointer (some ⟨h.nx, 0, none⟩), newRowH h .rw 1 (List.replicate 3 (w64 0#64))) := al_eq inf103 rfl
theorem ia103 (hn : n < 3) : evIndexAddr Try.prog 103 (.pointer (some ⟨b, o, none⟩)) (iv n) = some (.pointer (some ⟨b, o + n * 1, none⟩)) := ia_arr Try.underlying103 inf93 rfl hn
theorem len103 {x : Value} : evLenB Try.prog 103 x = some (iv 3) := len_arr Try.underlying103
theorem sla103 {lo hh : Nat} (h1 : lo ≤ hh) (h2 : hh ≤ 3) (h3 : lo < 3) : evSlice Try.prog 103 (.pointer (some ⟨b, i, none⟩)) (some (iv lo)) (some (iv hh)) none h = some (.slice (some ⟨b, i + lo * 1, none⟩) (hh - lo) (3 - lo)) := sla Try.underlying103 inf93 rfl h1 h2 h3
theorem slh103 {hh : Nat} (h2 : hh ≤ 3) : evSlice Try.prog 103 (.pointer (some ⟨b, i, none⟩)) none (some (iv hh)) none h = some (.slice (some ⟨b, i, none⟩) hh 3) := slh Try.underlying103 inf93 rfl h2 (by decide)
theorem sll103 {lo : Nat} (h1 : lo < 3) : evSlice Try.prog 103 (.pointer (some ⟨b, i, none⟩)) (some (iv lo)) none none h = some (.slice (some ⟨b, i + lo * 1, none⟩) (3 - lo) (3 - lo)) := sll Try.underlying103 inf93 rfl h1
theorem sln103 : evSlice Try.prog 103 (.pointer (some ⟨b, i, none⟩)) none none none h = some (.slice (some ⟨b, i, none⟩) 3 3) := sln Try.underlying103 inf93 (by decide)
theorem ix103 {cs : List Value} (hn : n < 3) : evIndex Try.prog 103 (.agg ⟨cs⟩) (iv n) = cs[n]? := ix_arr Try.underlying103 Try.underlying93 rfl inf93 rfl hn
theorem inf105 : Try.prog.info? 105 = some Try.t105 := by kernel_rfl
theorem ld105 : evLoad Try.prog 105 (.pointer (some ⟨b, i, none⟩)) h = cutV (h.obj b) i 3 := ld_agg Try.underlying105 inf105 rfl rfl
theorem st105 {cs : List Value} : evStore Try.prog 105 (.pointer (some ⟨b, i, none⟩)) (.agg ⟨cs⟩) h = putV h b i 3 cs (h.obj b) := st_agg inf105 rfl
theorem al105 : evAlloc Try.prog 105 h = some (.pointer (some ⟨h.nx, 0, none⟩), newRowH h .rw 1 (List.replicate 3 (w64 0#64))) := al_eq inf105 rfl
theorem fa105_0 : evFieldAddr Try.prog 105 (.pointer (some ⟨b, i, none⟩)) 0 = some (.pointer (some ⟨b, i + 0, none⟩)) := fa_eq Try.underlying105 rfl inf103 rfl (n := 3) rfl rfl
theorem inf107 : Try.prog.info? 107 = some Try.t107 := by kernel_rfl
theorem ld107 : evLoad Try.prog 107 (.pointer (some ⟨b, i, none⟩)) h = cutV (h.obj b) i 5 := ld_agg Try.underlying107 inf107 rfl rfl
theorem st107 {cs : List Value} : evStore Try.prog 107 (.pointer (some ⟨b, i, none⟩)) (.agg ⟨cs⟩) h = putV h b i 5 cs (h.obj b) := st_agg inf107 rfl
theorem al107 : evAlloc Try.prog 107 h = some (.pointer (some ⟨h.nx, 0, none⟩), newRowH h .rw 1 (List.replicate 5 (w64 0#64))) := al_eq inf107 rfl
theorem fa107_0 : evFieldAddr Try.prog 107 (.pointer (some ⟨b, i, none⟩)) 0 = some (.pointer (some ⟨b, i + 0, none⟩)) := fa_eq Try.underlying107 rfl inf105 rfl (n := 3) rfl rfl
theorem fa107_1 : evFieldAddr Try.prog 107 (.pointer (some ⟨b, i, none⟩)) 1 = some (.pointer (some ⟨b, i + 3, none⟩)) := fa_eq Try.underlying107 rfl inf102 rfl (n := 2) rfl rfl
theorem inf111 : Try.prog.info? 111 = some Try.t111 := by kernel_rfl
theorem ld111 : evLoad Try.prog 111 (.pointer (some ⟨b, i, none⟩)) h = cellV (h.obj b) i := ld_scalar Try.underlying111 inf111 rfl
theorem st111 (a : Option Addr) (m c : Nat) : evStore Try.prog 111 (.pointer (some ⟨b, i, none⟩)) (.slice a m c) h = put1 h b i (.slice a m c) (h.obj b) := st_one inf111 rfl rfl rfl
theorem al111 : evAlloc Try.prog 111 h = some (.pointer (some ⟨h.nx, 0, none⟩), newRowH h .rw 1 ([.slice none 0 0])) := al_eq inf111 rfl
theorem ia111 {len c : Nat} (hn : n < len) : evIndexAddr Try.prog 111 (.slice (some ⟨b, o, none⟩) len c) (iv n) = some (.pointer (some ⟨b, o + n * 1, none⟩)) := ia_sl Try.underlying111 inf3 rfl hn
theorem len111 {a : Option Addr} {c : Nat} : evLenB Try.prog 111 (.slice a n c) = some (iv n) := len_sl Try.underlying111
theorem S111len {v : Value} {m : Nat} {cs : List Value} (s : Sl 1 h v m cs) : evLenB Try.prog 111 v = some (iv m) := sl_len Try.underlying111 s
theorem S111ia {v : Value} {m : Nat} {cs : List Value} (s : Sl 1 h v m cs) (hn : i < m) : evIndexAddr Try.prog 111 v (iv i) = some (ptrAt 1 v i) := sl_ia Try.underlying111 inf3 rfl s hn
theorem E111 : ElOk Try.prog 111 3 Try.t3 1 (iv 0) := ⟨Try.underlying111, inf3, rfl, rfl, rfl, by decide, by decide⟩
theorem bs0_111 : evBuildSlice Try.prog 111 0 [] h = some (emptyS, h) := bs_0 E111
theorem bs1_111 (x : Nat) : evBuildSlice Try.prog 111 1 [(0, iv x)] h = some (.slice (some ⟨h.nx, 0, none⟩) 1 1, newRowH h .rw 1 [iv x]) := bs_1 E111 rfl
theorem bs2_111 (x y : Nat) : evBuildSlice Try.prog 111 2 [(0, iv x), (1, iv y)] h = some (.slice (some ⟨h.nx, 0, none⟩) 2 2, newRowH h .rw 1 [iv x, iv y]) := bs_2 E111 rfl rfl
theorem bs4_111 (x y z u : Nat) : evBuildSlice Try.prog 111 4 [(0, iv x), (1, iv y), (2, iv z), (3, iv u)] h = some (.slice (some ⟨h.nx, 0, none⟩) 4 4, newRowH h .rw 1 [iv x, iv y, iv z, iv u]) := bs_4 E111 rfl rfl rfl rfl
theorem inf127 : Try.prog.info? 127 = some Try.t127 := by kernel_rfl
theorem ld127 : evLoad Try.prog 127 (.pointer (some ⟨b, i, none⟩)) h = cutV (h.obj b) i 24 := ld_agg Try.underlying127 inf127 rfl rfl
theorem st127 {cs : List Value} : evStore Try.prog 127 (.pointer (some ⟨b, i, none⟩)) (.agg ⟨cs⟩) h = putV h b i 24 cs (h.obj b) := st_agg inf127 rfl
theorem al127 : evAlloc Try.prog 127 h = some (.pointer (some ⟨h.nx, 0, none⟩), newRowH h .rw 1 (List.replicate 24 (w8 0#8))) := al_eq inf127 rfl
theorem ia127 (hn : n < 24) : evIndexAddr Try.prog 127 (.pointer (some ⟨b, o, none⟩)) (iv n) = some (.pointer (some ⟨b, o + n * 1, none⟩)) := ia_arr Try.underlying127 inf5 rfl hn
theorem len127 {x : Value} : evLenB Try.prog 127 x = some (iv 24) := len_arr Try.underlying127
theorem sla127 {lo hh : Nat} (h1 : lo ≤ hh) (h2 : hh ≤ 24) (h3 : lo < 24) : evSlice Try.prog 127 (.pointer (some ⟨b, i, none⟩)) (some (iv lo)) (some (iv hh)) none h = some (.slice (some ⟨b, i + lo * 1, none⟩) (hh - lo) (24 - lo)) := sla Try.underlying127 inf5 rfl h1 h2 h3
theorem slh127 {hh : Nat} (h2 : hh ≤ 24) : evSlice Try.prog 127 (.pointer (some ⟨b, i, none⟩)) none (some (iv hh)) none h = some (.slice (some ⟨b, i, none⟩) hh 24) := slh Try.underlying127 inf5 rfl h2 (by decide)
theorem sll127 {lo : Nat} (h1 : lo < 24) : evSlice Try.prog 127 (.pointer (some ⟨b, i, none⟩)) (some (iv lo)) none none h = some (.slice (some ⟨b, i + lo * 1, none⟩) (24 - lo) (24 - lo)) := sll Try.underlying127 inf5 rfl h1
theorem sln127 : evSlice Try.prog 127 (.pointer (some ⟨b, i, none⟩)) none none none h = some (.slice (some ⟨b, i, none⟩) 24 24) := sln Try.underlying127 inf5 (by decide)
theorem ix127 {cs : List Value} (hn : n < 24) : evIndex Try.prog 127 (.agg ⟨cs⟩) (iv n) = cs[n]? := ix_arr Try.underlying127 Try.underlying5 rfl inf5 rfl hn
theorem inf128 : Try.prog.info? 128 = some Try.t128 := by kernel_rfl
theorem ld128 : evLoad Try.prog 128 (.pointer (some ⟨b, i, none⟩)) h = cutV (h.obj b) i 5 := ld_agg Try.underlying128 inf128 rfl rfl
theorem st128 {cs : List Value} : evStore Try.prog 128 (.pointer (some ⟨b, i, none⟩)) (.agg ⟨cs⟩) h = putV h b i 5 cs (h.obj b) := st_agg inf128 rfl
theorem al128 : evAlloc Try.prog 128 h = some (.pointer (some ⟨h.nx, 0, none⟩), newRowH h .rw 1 (List.replicate 5 (w64 0#64))) := al_eq inf128 rfl
theorem ia128 (hn : n < 5) : evIndexAddr Try.prog 128 (.pointer (some ⟨b, o, none⟩)) (iv n) = some (.pointer (some ⟨b, o + n * 1, none⟩)) := ia_arr Try.underlying128 inf93 rfl hn
theorem len128 {x : Value} : evLenB Try.prog 128 x = some (iv 5) := len_arr Try.underlying128
theorem sla128 {lo hh : Nat} (h1 : lo ≤ hh) (h2 : hh ≤ 5) (h3 : lo < 5) : evSlice Try.prog 128 (.pointer (some ⟨b, i, none⟩)) (some (iv lo)) (some (iv hh)) none h = some (.slice (some ⟨b, i + lo * 1, none⟩) (hh - lo) (5 - lo)) := sla Try.underlying128 inf93 rfl h1 h2 h3
theorem slh128 {hh : Nat} (h2 : hh ≤ 5) : evSlice Try.prog 128 (.pointer (some ⟨b, i, none⟩)) none (some (iv hh)) none h = some (.slice (some ⟨b, i, none⟩) hh 5) := slh Try.underlying128 inf93 rfl h2 (by decide)
theorem sll128 {lo : Nat} (h1 : lo < 5) : evSlice Try.prog 128 (.pointer (some ⟨b, i, none⟩)) (some (iv lo)) none none h = some (.slice (some ⟨b, i + lo * 1, none⟩) (5 - lo) (5 - lo)) := sll Try.underlying128 inf93 rfl h1
theorem sln128 : evSlice Try.prog 128 (.pointer (some ⟨b, i, none⟩)) none none none h = some (.slice (some ⟨b, i, none⟩) 5 5) := sln Try.underlying128 inf93 (by decide)
theorem ix128 {cs : List Value} (hn : n < 5) : evIndex Try.prog 128 (.agg ⟨cs⟩) (iv n) = cs[n]? := ix_arr Try.underlying128 Try.underlying93 rfl inf93 rfl hn
theorem inf133 : Try.prog.info? 133 = some Try.t133 := by kernel_rfl
theorem ld133 : evLoad Try.prog 133 (.pointer (some ⟨b, i, none⟩)) h = cellV (h.obj b) i := ld_scalar Try.underlying133 inf133 rfl
theorem st133 (a : Option Addr) : evStore Try.prog 133 (.pointer (some ⟨b, i, none⟩)) (.pointer a) h = put1 h b i (.pointer a) (h.obj b) := st_one inf133 rfl rfl rfl
theorem al133 : evAlloc Try.prog 133 h = some (.pointer (some ⟨h.nx, 0, none⟩), newRowH h .rw 1 ([.pointer none])) := al_eq inf133 rfl
theorem inf134 : Try.prog.info? 134 = some Try.t134 := by kernel_rfl
theorem ld134 : evLoad Try.prog 134 (.pointer (some ⟨b, i, none⟩)) h = cellV (h.obj b) i := ld_scalar Try.underlying134 inf134 rfl
theorem st134 (a : Option Addr) (m c : Nat) : evStore Try.prog 134 (.pointer (some ⟨b, i, none⟩)) (.slice a m c) h = put1 h b i (.slice a m c) (h.obj b) := st_one inf134 rfl rfl rfl
theorem al134 : evAlloc Try.prog 134 h = some (.pointer (some ⟨h.nx, 0, none⟩), newRowH h .rw 1 ([.slice none 0 0])) := al_eq inf134 rfl
theorem ia134 {len c : Nat} (hn : n < len) : evIndexAddr Try.prog 134 (.slice (some ⟨b, o, none⟩) len c) (iv n) = some (.pointer (some ⟨b, o + n * 1, none⟩)) := ia_sl Try.underlying134 inf38 rfl hn
theorem len134 {a : Option Addr} {c : Nat} : evLenB Try.prog 134 (.slice a n c) = some (iv n) := len_sl Try.underlying134
theorem E134 : ElOk Try.prog 134 38 Try.t38 1 (.slice none 0 0) := ⟨Try.underlying134, inf38, rfl, rfl, rfl, by decide, by decide⟩
theorem bs0_134 : evBuildSlice Try.prog 134 0 [] h = some (emptyS, h) := bs_0 E134
theorem bs1_134 (a : Option Addr) (m c : Nat) : evBuildSlice Try.prog 134 1 [(0, .slice a m c)] h = some (.slice (some ⟨h.nx, 0, none⟩) 1 1, newRowH h .rw 1 [.slice a m c]) := bs_1 E134 rfl
theorem bs2_134 (a a2 : Option Addr) (m c m2 c2 : Nat) : evBuildSlice Try.prog 134 2 [(0, .slice a m c), (1, .slice a2 m2 c2)] h = some (.slice (some ⟨h.nx, 0, none⟩) 2 2, newRowH h .rw 1 [.slice a m c, .slice a2 m2 c2]) := bs_2 E134 rfl rfl
theorem inf135 : Try.prog.info? 135 = some Try.t135 := by kernel_rfl
theorem ld135 : evLoad Try.prog 135 (.pointer (some ⟨b, i, none⟩)) h = cutV (h.obj b) i 8 := ld_agg Try.underlying135 inf135 rfl rfl
theorem st135 {cs : List Value} : evStore Try.prog 135 (.pointer (some ⟨b, i, none⟩)) (.agg ⟨cs⟩) h = putV h b i 8 cs (h.obj b) := st_agg inf135 rfl
theorem al135 : evAlloc Try.prog 135 h = some (.pointer (some ⟨h.nx, 0, none⟩), newRowH h .rw 1 (List.replicate 8 (w8 0#8))) := al_eq inf135 rfl
theorem ia135 (hn : n < 8) : evIndexAddr Try.prog 135 (.pointer (some ⟨b, o, none⟩)) (iv n) = some (.pointer (some ⟨b, o + n * 1, none⟩)) := ia_arr Try.underlying135 inf5 rfl hn
theorem len135 {x : Value} : evLenB Try.prog 135 x = some (iv 8) := len_arr Try.underlying135
theorem sla135 {lo hh : Nat} (h1 : lo ≤ hh) (h2 : hh ≤ 8) (h3 : lo < 8) : evSlice Try.prog 135 (.pointer (some ⟨b, i, none⟩)) (some (iv lo)) (some (iv hh)) none h = some (.slice (some ⟨b, i + lo * 1, none⟩) (hh - lo) (8 - lo)) := sla Try.underlying135 inf5 rfl h1 h2 h3
theorem slh135 {hh : Nat} (h2 : hh ≤ 8) : evSlice Try.prog 135 (.pointer (some ⟨b, i, none⟩)) none (some (iv hh)) none h = some (.slice (some ⟨b, i, none⟩) hh 8) := slh Try.underlying135 inf5 rfl h2 (by decide)
theorem sll135 {lo : Nat} (h1 : lo < 8) : evSlice Try.prog 135 (.pointer (some ⟨b, i, none⟩)) (some (iv lo)) none none h = some (.slice (some ⟨b, i + lo * 1, none⟩) (8 - lo) (8 - lo)) := sll Try.underlying135 inf5 rfl h1
theorem sln135 : evSlice Try.prog 135 (.pointer (some ⟨b, i, none⟩)) none none none h = some (.slice (some ⟨b, i, none⟩) 8 8) := sln Try.underlying135 inf5 (by decide)
theorem ix135 {cs : List Value} (hn : n < 8) : evIndex Try.prog 135 (.agg ⟨cs⟩) (iv n) = cs[n]? := ix_arr Try.underlying135 Try.underlying5 rfl inf5 rfl hn
end
def T1 := (And.intro @ld1 (And.intro @st1 @al1))
def T2 := (And.intro @ld2 (And.intro @st2 @al2))
def T3 := (And.intro @ld3 (And.intro @st3 @al3))
def T4 := (And.intro @ld4 (And.intro @st4 @al4))
def T5 := (And.intro @ld5 (And.intro @st5 @al5))
def T9 := (And.intro (And.intro @ld9 @st9) (And.intro @al9 @len9))
def T22 := (And.intro @ld22 (And.intro @st22 @al22))
def T30 := (And.intro (And.intro (And.intro @ld30 @st30) (And.intro @al30 (And.intro @ia30 @len30))) (And.intro (And.intro @sla30 @slh30) (And.intro @sll30 (And.intro @sln30 @ix30))))
def T32 := (And.intro (And.intro (And.intro @ld32 @st32) (And.intro @al32 (And.intro @ia32 @len32))) (And.intro (And.intro @sla32 @slh32) (And.intro @sll32 (And.intro @sln32 @ix32))))
def T33 := (And.intro (And.intro (And.intro @ld33 @st33) (And.intro @al33 (And.intro @ia33 @len33))) (And.intro (And.intro @sla33 @slh33) (And.intro @sll33 (And.intro @sln33 @ix33))))
def T38 := (And.intro (And.intro (And.intro @ld38 @st38) (And.intro @al38 @ia38)) (And.intro (And.intro @len38 @bs0_38) (And.intro @bs1_38 (And.intro @bs2_38 @bs4_38))))
def T56 := (And.intro (And.intro (And.intro @ld56 @st56) (And.intro @al56 (And.intro @ia56 @len56))) (And.intro (And.intro @sla56 @slh56) (And.intro @sll56 (And.intro @sln56 @ix56))))
def T57 := (And.intro (And.intro (And.intro @ld57 @st57) (And.intro @al57 (And.intro @ia57 @len57))) (And.intro (And.intro @sla57 @slh57) (And.intro @sll57 (And.intro @sln57 @ix57))))
def T66 := (And.intro @ld66 (And.intro @st66 @al66))
def T74 := (And.intro (And.intro @ld74 (And.intro @st74 @al74)) (And.intro @fa74_0 (And.intro @fa74_1 @fa74_2)))
def T83 := (And.intro (And.intro (And.intro @ld83 @st83) (And.intro @al83 (And.intro @ia83 @len83))) (And.intro (And.intro @sla83 @slh83) (And.intro @sll83 (And.intro @sln83 @ix83))))
def T84 := (And.intro (And.intro (And.intro @ld84 @st84) (And.intro @al84 (And.intro @ia84 @len84))) (And.intro (And.intro @sla84 @slh84) (And.intro @sll84 (And.intro @sln84 @ix84))))
def T88 := (And.intro (And.intro (And.intro @ld88 @st88) (And.intro @al88 (And.intro @ia88 @len88))) (And.intro (And.intro @sla88 @slh88) (And.intro @sll88 (And.intro @sln88 @ix88))))
def T89 := (And.intro (And.intro (And.intro @ld89 @st89) (And.intro @al89 @ia89)) (And.intro (And.intro @len89 @sla89) (And.intro @slh89 (And.intro @sll89 @sln89))))
def T93 := (And.intro @ld93 (And.intro @st93 @al93))
def T94 := (And.intro @ld94 (And.intro @st94 @al94))
def T100 := (And.intro @ld100 (And.intro @st100 @al100))
def T102 := (And.intro (And.intro (And.intro @ld102 @st102) (And.intro @al102 (And.intro @ia102 @len102))) (And.intro (And.intro @sla102 @slh102) (And.intro @sll102 (And.intro @sln102 @ix102))))
def T103 := (And.intro (And.intro (And.intro @ld103 @st103) (And.intro @al103 (And.intro @ia103 @len103))) (And.intro (And.intro @sla103 @slh103) (And.intro @sll103 (And.intro @sln103 @ix103))))
def T105 := (And.intro (And.intro @ld105 @st105) (And.intro @al105 @fa105_0))
def T107 := (And.intro (And.intro @ld107 @st107) (And.intro @al107 (And.intro @fa107_0 @fa107_1)))
def T111 := (And.intro (And.intro (And.intro @ld111 @st111) (And.intro @al111 @ia111)) (And.intro (And.intro @len111 @bs0_111) (And.intro @bs1_111 (And.intro @bs2_111 @bs4_111))))
def T127 := (And.intro (And.intro (And.intro @ld127 @st127) (And.intro @al127 (And.intro @ia127 @len127))) (And.intro (And.intro @sla127 @slh127) (And.intro @sll127 (And.intro @sln127 @ix127))))
def T128 := (And.intro (And.intro (And.intro @ld128 @st128) (And.intro @al128 (And.intro @ia128 @len128))) (And.intro (And.intro @sla128 @slh128) (And.intro @sll128 (And.intro @sln128 @ix128))))
def T133 := (And.intro @ld133 (And.intro @st133 @al133))
def T134 := (And.intro (And.intro (And.intro @ld134 @st134) (And.intro @al134 @ia134)) (And.intro (And.intro @len134 @bs0_134) (And.intro @bs1_134 @bs2_134)))
def T135 := (And.intro (And.intro (And.intro @ld135 @st135) (And.intro @al135 (And.intro @ia135 @len135))) (And.intro (And.intro @sla135 @slh135) (And.intro @sll135 (And.intro @sln135 @ix135))))
end Go.Proofs.Ytfehhihllenjiaa
