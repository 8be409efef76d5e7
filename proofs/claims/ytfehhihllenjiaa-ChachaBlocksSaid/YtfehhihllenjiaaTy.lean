/- Facts on the types of this seat, printed by a program of ours. -/
import Derived.Test.YtfehhihllenjiaaY
import Derived.Test.YtfehhihllenjiaaProg
import Derived.KernelRfl
set_option linter.all false
namespace Go.Proofs.Ytfehhihllenjiaa
open Go.Proofs
section
variable {h : Heap} {b i o n : Nat}
theorem inf1 : Try.prog.info? 1 = some Try.t1 := by kernel_rfl
theorem ld1 : evLoad Try.prog 1 (.pointer (some ⟨b, i, none⟩)) h = cellV (h.obj b) i := ld_scalar Try.underlying1 inf1 rfl
theorem st1 (f : Fn) (x y : Array Value) : evStore Try.prog 1 (.pointer (some ⟨b, i, none⟩)) (.func f x y) h = put1 h b i (.func f x y) (h.obj b) := st_one inf1 rfl rfl rfl
theorem al1 : evAlloc Try.prog 1 h = some (.pointer (some ⟨h.nx, 0, none⟩), newRowH h .rw 1 ([.nilFunc])) := al_eq inf1 rfl
theorem inf2 : Try.prog.info? 2 = some Try.t2 := by kernel_rfl
theorem ld2 : evLoad Try.prog 2 (.pointer (some ⟨b, i, none⟩)) h = cellV (h.obj b) i := ld_scalar Try.underlying2 inf2 rfl
theorem st2 (x : Nat) : evStore Try.prog 2 (.pointer (some ⟨b, i, none⟩)) (iv x) h = put1 h b i (iv x) (h.obj b) := st_one inf2 rfl rfl rfl
theorem al2 : evAlloc Try.prog 2 h = some (.pointer (some ⟨h.nx, 0, none⟩), newRowH h .rw 1 ([iv 0])) := al_eq inf2 rfl
theorem inf3 : Try.prog.info? 3 = some Try.t3 := by kernel_rfl
theorem ld3 : evLoad Try.prog 3 (.pointer (some ⟨b, i, none⟩)) h = cellV (h.obj b) i := ld_scalar Try.underlying3 inf3 rfl
theorem st3 (x : Nat) : evStore Try.prog 3 (.pointer (some ⟨b, i, none⟩)) (iv x) h = put1 h b i (iv x) (h.obj b) := st_one inf3 rfl rfl rfl
theorem al3 : evAlloc Try.prog 3 h = some (.pointer (some ⟨h.nx, 0, none⟩), newRowH h .rw 1 ([iv 0])) := al_eq inf3 rfl
theorem inf4 : Try.prog.info? 4 = some Try.t4 := by kernel_rfl
theorem ld4 : evLoad Try.prog 4 (.pointer (some ⟨b, i, none⟩)) h = cellV (h.obj b) i := ld_scalar Try.underlying4 inf4 rfl
theorem st4 (x : Bool) : evStore Try.prog 4 (.pointer (some ⟨b, i, none⟩)) (.bool x) h = put1 h b i (.bool x) (h.obj b) := st_one inf4 rfl rfl rfl
theorem al4 : evAlloc Try.prog 4 h = some (.pointer (some ⟨h.nx, 0, none⟩), newRowH h .rw 1 ([.bool false])) := al_eq inf4 rfl
theorem inf5 : Try.prog.info? 5 = some Try.t5 := by kernel_rfl
theorem ld5 : evLoad Try.prog 5 (.pointer (some ⟨b, i, none⟩)) h = cellV (h.obj b) i := ld_scalar Try.underlying5 inf5 rfl
theorem st5 (x : BitVec 8) : evStore Try.prog 5 (.pointer (some ⟨b, i, none⟩)) (w8 x) h = put1 h b i (w8 x) (h.obj b) := st_one inf5 rfl rfl rfl
theorem al5 : evAlloc Try.prog 5 h = some (.pointer (some ⟨h.nx, 0, none⟩), newRowH h .rw 1 ([w8 0#8])) := al_eq inf5 rfl
theorem inf6 : Try.prog.info? 6 = some Try.t6 := by kernel_rfl
theorem ld6 : evLoad Try.prog 6 (.pointer (some ⟨b, i, none⟩)) h = cellV (h.obj b) i := ld_scalar Try.underlying6 inf6 rfl
theorem st6 (x : BitVec 8) : evStore Try.prog 6 (.pointer (some ⟨b, i, none⟩)) (w8 x) h = put1 h b i (w8 x) (h.obj b) := st_one inf6 rfl rfl rfl
theorem al6 : evAlloc Try.prog 6 h = some (.pointer (some ⟨h.nx, 0, none⟩), newRowH h .rw 1 ([w8 0#8])) := al_eq inf6 rfl
theorem inf9 : Try.prog.info? 9 = some Try.t9 := by kernel_rfl
theorem ld9 : evLoad Try.prog 9 (.pointer (some ⟨b, i, none⟩)) h = cellV (h.obj b) i := ld_scalar Try.underlying9 inf9 rfl
theorem st9 (x : ByteArray) : evStore Try.prog 9 (.pointer (some ⟨b, i, none⟩)) (.string x) h = put1 h b i (.string x) (h.obj b) := st_one inf9 rfl rfl rfl
theorem al9 : evAlloc Try.prog 9 h = some (.pointer (some ⟨h.nx, 0, none⟩), newRowH h .rw 1 ([.string ⟨#[]⟩])) := al_eq inf9 rfl
theorem len9 {s : ByteArray} : evLenB Try.prog 9 (.string s) = some (iv s.size) := len_str Try.underlying9
theorem inf10 : Try.prog.info? 10 = some Try.t10 := by kernel_rfl
theorem ld10 : evLoad Try.prog 10 (.pointer (some ⟨b, i, none⟩)) h = cellV (h.obj b) i := ld_scalar Try.underlying10 inf10 rfl
theorem st10 (x : ByteArray) : evStore Try.prog 10 (.pointer (some ⟨b, i, none⟩)) (.string x) h = put1 h b i (.string x) (h.obj b) := st_one inf10 rfl rfl rfl
theorem al10 : evAlloc Try.prog 10 h = some (.pointer (some ⟨h.nx, 0, none⟩), newRowH h .rw 1 ([.string ⟨#[]⟩])) := al_eq inf10 rfl
theorem len10 {s : ByteArray} : evLenB Try.prog 10 (.string s) = some (iv s.size) := len_str Try.underlying10
theorem inf11 : Try.prog.info? 11 = some Try.t11 := by kernel_rfl
theorem ld11 : evLoad Try.prog 11 (.pointer (some ⟨b, i, none⟩)) h = cellV (h.obj b) i := ld_scalar Try.underlying11 inf11 rfl
theorem st11 (x : ByteArray) : evStore Try.prog 11 (.pointer (some ⟨b, i, none⟩)) (.string x) h = put1 h b i (.string x) (h.obj b) := st_one inf11 rfl rfl rfl
theorem al11 : evAlloc Try.prog 11 h = some (.pointer (some ⟨h.nx, 0, none⟩), newRowH h .rw 1 ([.string ⟨#[]⟩])) := al_eq inf11 rfl
theorem len11 {s : ByteArray} : evLenB Try.prog 11 (.string s) = some (iv s.size) := len_str Try.underlying11
theorem inf12 : Try.prog.info? 12 = some Try.t12 := by kernel_rfl
theorem ld12 : evLoad Try.prog 12 (.pointer (some ⟨b, i, none⟩)) h = cellV (h.obj b) i := ld_scalar Try.underlying12 inf12 rfl
theorem st12 (x : BitVec 64) : evStore Try.prog 12 (.pointer (some ⟨b, i, none⟩)) (w64 x) h = put1 h b i (w64 x) (h.obj b) := st_one inf12 rfl rfl rfl
theorem al12 : evAlloc Try.prog 12 h = some (.pointer (some ⟨h.nx, 0, none⟩), newRowH h .rw 1 ([w64 0#64])) := al_eq inf12 rfl
theorem inf15 : Try.prog.info? 15 = some Try.t15 := by kernel_rfl
theorem ld15 : evLoad Try.prog 15 (.pointer (some ⟨b, i, none⟩)) h = cellV (h.obj b) i := ld_scalar Try.underlying15 inf15 rfl
theorem st15 (a : Option Addr) : evStore Try.prog 15 (.pointer (some ⟨b, i, none⟩)) (.pointer a) h = put1 h b i (.pointer a) (h.obj b) := st_one inf15 rfl rfl rfl
theorem al15 : evAlloc Try.prog 15 h = some (.pointer (some ⟨h.nx, 0, none⟩), newRowH h .rw 1 ([.pointer none])) := al_eq inf15 rfl
theorem inf16 : Try.prog.info? 16 = some Try.t16 := by kernel_rfl
theorem ld16 : evLoad Try.prog 16 (.pointer (some ⟨b, i, none⟩)) h = cellV (h.obj b) i := ld_scalar Try.underlying16 inf16 rfl
theorem st16 (a : Option Addr) : evStore Try.prog 16 (.pointer (some ⟨b, i, none⟩)) (.pointer a) h = put1 h b i (.pointer a) (h.obj b) := st_one inf16 rfl rfl rfl
theorem al16 : evAlloc Try.prog 16 h = some (.pointer (some ⟨h.nx, 0, none⟩), newRowH h .rw 1 ([.pointer none])) := al_eq inf16 rfl
theorem inf17 : Try.prog.info? 17 = some Try.t17 := by kernel_rfl
theorem ld17 : evLoad Try.prog 17 (.pointer (some ⟨b, i, none⟩)) h = cellV (h.obj b) i := ld_scalar Try.underlying17 inf17 rfl
theorem st17 (a : Option Addr) : evStore Try.prog 17 (.pointer (some ⟨b, i, none⟩)) (.pointer a) h = put1 h b i (.pointer a) (h.obj b) := st_one inf17 rfl rfl rfl
theorem al17 : evAlloc Try.prog 17 h = some (.pointer (some ⟨h.nx, 0, none⟩), newRowH h .rw 1 ([.pointer none])) := al_eq inf17 rfl
theorem inf20 : Try.prog.info? 20 = some Try.t20 := by kernel_rfl
theorem ld20 : evLoad Try.prog 20 (.pointer (some ⟨b, i, none⟩)) h = cellV (h.obj b) i := ld_scalar Try.underlying20 inf20 rfl
theorem al20 : evAlloc Try.prog 20 h = some (.pointer (some ⟨h.nx, 0, none⟩), newRowH h .rw 1 ([.nilIface])) := al_eq inf20 rfl
theorem inf21 : Try.prog.info? 21 = some Try.t21 := by kernel_rfl
theorem ld21 : evLoad Try.prog 21 (.pointer (some ⟨b, i, none⟩)) h = cellV (h.obj b) i := ld_scalar Try.underlying21 inf21 rfl
theorem st21 (x : Int) : evStore Try.prog 21 (.pointer (some ⟨b, i, none⟩)) (.int .i32 x) h = put1 h b i (.int .i32 x) (h.obj b) := st_one inf21 rfl rfl rfl
theorem al21 : evAlloc Try.prog 21 h = some (.pointer (some ⟨h.nx, 0, none⟩), newRowH h .rw 1 ([.int .i32 0])) := al_eq inf21 rfl
theorem inf22 : Try.prog.info? 22 = some Try.t22 := by kernel_rfl
theorem ld22 : evLoad Try.prog 22 (.pointer (some ⟨b, i, none⟩)) h = cellV (h.obj b) i := ld_scalar Try.underlying22 inf22 rfl
theorem st22 (x : BitVec 32) : evStore Try.prog 22 (.pointer (some ⟨b, i, none⟩)) (w32 x) h = put1 h b i (w32 x) (h.obj b) := st_one inf22 rfl rfl rfl
theorem al22 : evAlloc Try.prog 22 h = some (.pointer (some ⟨h.nx, 0, none⟩), newRowH h .rw 1 ([w32 0#32])) := al_eq inf22 rfl
theorem inf23 : Try.prog.info? 23 = some Try.t23 := by kernel_rfl
theorem ld23 : evLoad Try.prog 23 (.pointer (some ⟨b, i, none⟩)) h = cutV (h.obj b) i 4 := ld_agg Try.underlying23 inf23 rfl rfl
theorem st23 {cs : List Value} : evStore Try.prog 23 (.pointer (some ⟨b, i, none⟩)) (.agg ⟨cs⟩) h = putV h b i 4 cs (h.obj b) := st_agg inf23 rfl
theorem al23 : evAlloc Try.prog 23 h = some (.pointer (some ⟨h.nx, 0, none⟩), newRowH h .rw 1 (List.replicate 4 (w32 0#32))) := al_eq inf23 rfl
theorem ia23 (hn : n < 4) : evIndexAddr Try.prog 23 (.pointer (some ⟨b, o, none⟩)) (iv n) = some (.pointer (some ⟨b, o + n * 1, none⟩)) := ia_arr Try.underlying23 inf22 rfl hn
theorem len23 {x : Value} : evLenB Try.prog 23 x = some (iv 4) := len_arr Try.underlying23
theorem sla23 {lo hh : Nat} (h1 : lo ≤ hh) (h2 : hh ≤ 4) (h3 : lo < 4) : evSlice Try.prog 23 (.pointer (some ⟨b, i, none⟩)) (some (iv lo)) (some (iv hh)) none h = some (.slice (some ⟨b, i + lo * 1, none⟩) (hh - lo) (4 - lo)) := sla Try.underlying23 inf22 rfl h1 h2 h3
theorem slh23 {hh : Nat} (h2 : hh ≤ 4) : evSlice Try.prog 23 (.pointer (some ⟨b, i, none⟩)) none (some (iv hh)) none h = some (.slice (some ⟨b, i, none⟩) hh 4) := slh Try.underlying23 inf22 rfl h2 (by decide)
theorem sll23 {lo : Nat} (h1 : lo < 4) : evSlice Try.prog 23 (.pointer (some ⟨b, i, none⟩)) (some (iv lo)) none none h = some (.slice (some ⟨b, i + lo * 1, none⟩) (4 - lo) (4 - lo)) := sll Try.underlying23 inf22 rfl h1
theorem sln23 : evSlice Try.prog 23 (.pointer (some ⟨b, i, none⟩)) none none none h = some (.slice (some ⟨b, i, none⟩) 4 4) := sln Try.underlying23 inf22 (by decide)
theorem ix23 {cs : List Value} (hn : n < 4) : evIndex Try.prog 23 (.agg ⟨cs⟩) (iv n) = cs[n]? := ix_arr Try.underlying23 Try.underlying22 rfl inf22 rfl hn
theorem inf25 : Try.prog.info? 25 = some Try.t25 := by kernel_rfl
theorem ld25 : evLoad Try.prog 25 (.pointer (some ⟨b, i, none⟩)) h = cellV (h.obj b) i := ld_scalar Try.underlying25 inf25 rfl
theorem st25 (f : Fn) (x y : Array Value) : evStore Try.prog 25 (.pointer (some ⟨b, i, none⟩)) (.func f x y) h = put1 h b i (.func f x y) (h.obj b) := st_one inf25 rfl rfl rfl
theorem al25 : evAlloc Try.prog 25 h = some (.pointer (some ⟨h.nx, 0, none⟩), newRowH h .rw 1 ([.nilFunc])) := al_eq inf25 rfl
theorem inf26 : Try.prog.info? 26 = some Try.t26 := by kernel_rfl
theorem ld26 : evLoad Try.prog 26 (.pointer (some ⟨b, i, none⟩)) h = cellV (h.obj b) i := ld_scalar Try.underlying26 inf26 rfl
theorem st26 (f : Fn) (x y : Array Value) : evStore Try.prog 26 (.pointer (some ⟨b, i, none⟩)) (.func f x y) h = put1 h b i (.func f x y) (h.obj b) := st_one inf26 rfl rfl rfl
theorem al26 : evAlloc Try.prog 26 h = some (.pointer (some ⟨h.nx, 0, none⟩), newRowH h .rw 1 ([.nilFunc])) := al_eq inf26 rfl
theorem inf27 : Try.prog.info? 27 = some Try.t27 := by kernel_rfl
theorem ld27 : evLoad Try.prog 27 (.pointer (some ⟨b, i, none⟩)) h = cellV (h.obj b) i := ld_scalar Try.underlying27 inf27 rfl
theorem st27 (f : Fn) (x y : Array Value) : evStore Try.prog 27 (.pointer (some ⟨b, i, none⟩)) (.func f x y) h = put1 h b i (.func f x y) (h.obj b) := st_one inf27 rfl rfl rfl
theorem al27 : evAlloc Try.prog 27 h = some (.pointer (some ⟨h.nx, 0, none⟩), newRowH h .rw 1 ([.nilFunc])) := al_eq inf27 rfl
theorem inf28 : Try.prog.info? 28 = some Try.t28 := by kernel_rfl
theorem ld28 : evLoad Try.prog 28 (.pointer (some ⟨b, i, none⟩)) h = cellV (h.obj b) i := ld_scalar Try.underlying28 inf28 rfl
theorem st28 (f : Fn) (x y : Array Value) : evStore Try.prog 28 (.pointer (some ⟨b, i, none⟩)) (.func f x y) h = put1 h b i (.func f x y) (h.obj b) := st_one inf28 rfl rfl rfl
theorem al28 : evAlloc Try.prog 28 h = some (.pointer (some ⟨h.nx, 0, none⟩), newRowH h .rw 1 ([.nilFunc])) := al_eq inf28 rfl
theorem inf29 : Try.prog.info? 29 = some Try.t29 := by kernel_rfl
theorem ld29 : evLoad Try.prog 29 (.pointer (some ⟨b, i, none⟩)) h = cutV (h.obj b) i 32 := ld_agg Try.underlying29 inf29 rfl rfl
theorem st29 {cs : List Value} : evStore Try.prog 29 (.pointer (some ⟨b, i, none⟩)) (.agg ⟨cs⟩) h = putV h b i 32 cs (h.obj b) := st_agg inf29 rfl
theorem al29 : evAlloc Try.prog 29 h = some (.pointer (some ⟨h.nx, 0, none⟩), newRowH h .rw 1 (List.replicate 32 (w8 0#8))) := al_eq inf29 rfl
theorem ia29 (hn : n < 32) : evIndexAddr Try.prog 29 (.pointer (some ⟨b, o, none⟩)) (iv n) = some (.pointer (some ⟨b, o + n * 1, none⟩)) := ia_arr Try.underlying29 inf5 rfl hn
theorem len29 {x : Value} : evLenB Try.prog 29 x = some (iv 32) := len_arr Try.underlying29
theorem sla29 {lo hh : Nat} (h1 : lo ≤ hh) (h2 : hh ≤ 32) (h3 : lo < 32) : evSlice Try.prog 29 (.pointer (some ⟨b, i, none⟩)) (some (iv lo)) (some (iv hh)) none h = some (.slice (some ⟨b, i + lo * 1, none⟩) (hh - lo) (32 - lo)) := sla Try.underlying29 inf5 rfl h1 h2 h3
theorem slh29 {hh : Nat} (h2 : hh ≤ 32) : evSlice Try.prog 29 (.pointer (some ⟨b, i, none⟩)) none (some (iv hh)) none h = some (.slice (some ⟨b, i, none⟩) hh 32) := slh Try.underlying29 inf5 rfl h2 (by decide)
theorem sll29 {lo : Nat} (h1 : lo < 32) : evSlice Try.prog 29 (.pointer (some ⟨b, i, none⟩)) (some (iv lo)) none none h = some (.slice (some ⟨b, i + lo * 1, none⟩) (32 - lo) (32 - lo)) := sll Try.underlying29 inf5 rfl h1
theorem sln29 : evSlice Try.prog 29 (.pointer (some ⟨b, i, none⟩)) none none none h = some (.slice (some ⟨b, i, none⟩) 32 32) := sln Try.underlying29 inf5 (by decide)
theorem ix29 {cs : List Value} (hn : n < 32) : evIndex Try.prog 29 (.agg ⟨cs⟩) (iv n) = cs[n]? := ix_arr Try.underlying29 Try.underlying5 rfl inf5 rfl hn
theorem inf30 : Try.prog.info? 30 = some Try.t30 := by kernel_rfl
theorem ld30 : evLoad Try.prog 30 (.pointer (some ⟨b, i, none⟩)) h = cutV (h.obj b) i 32 := ld_agg Try.underlying30 inf30 rfl rfl
theorem st30 {cs : List Value} : evStore Try.prog 30 (.pointer (some ⟨b, i, none⟩)) (.agg ⟨cs⟩) h = putV h b i 32 cs (h.obj b) := st_agg inf30 rfl
theorem al30 : evAlloc Try.prog 30 h = some (.pointer (some ⟨h.nx, 0, none⟩), newRowH h .rw 1 (List.replicate 32 (w8 0#8))) := al_eq inf30 rfl
theorem ia30 (hn : n < 32) : evIndexAddr Try.prog 30 (.pointer (some ⟨b, o, none⟩)) (iv n) = some (.pointer (some ⟨b, o + n * 1, none⟩)) := ia_arr Try.underlying30 inf5 rfl hn
theorem len30 {x : Value} : evLenB Try.prog 30 x = some (iv 32) := len_arr Try.underlying30
theorem sla30 {lo hh : Nat} (h1 : lo ≤ hh) (h2 : hh ≤ 32) (h3 : lo < 32) : evSlice Try.prog 30 (.pointer (some ⟨b, i, none⟩)) (some (iv lo)) (some (iv hh)) none h = some (.slice (some ⟨b, i + lo * 1, none⟩) (hh - lo) (32 - lo)) := sla Try.underlying30 inf5 rfl h1 h2 h3
theorem slh30 {hh : Nat} (h2 : hh ≤ 32) : evSlice Try.prog 30 (.pointer (some ⟨b, i, none⟩)) none (some (iv hh)) none h = some (.slice (some ⟨b, i, none⟩) hh 32) := slh Try.underlying30 inf5 rfl h2 (by decide)
theorem sll30 {lo : Nat} (h1 : lo < 32) : evSlice Try.prog 30 (.pointer (some ⟨b, i, none⟩)) (some (iv lo)) none none h = some (.slice (some ⟨b, i + lo * 1, none⟩) (32 - lo) (32 - lo)) := sll Try.underlying30 inf5 rfl h1
theorem sln30 : evSlice Try.prog 30 (.pointer (some ⟨b, i, none⟩)) none none none h = some (.slice (some ⟨b, i, none⟩) 32 32) := sln Try.underlying30 inf5 (by decide)
theorem ix30 {cs : List Value} (hn : n < 32) : evIndex Try.prog 30 (.agg ⟨cs⟩) (iv n) = cs[n]? := ix_arr Try.underlying30 Try.underlying5 rfl inf5 rfl hn
theorem inf31 : Try.prog.info? 31 = some Try.t31 := by kernel_rfl
theorem ld31 : evLoad Try.prog 31 (.pointer (some ⟨b, i, none⟩)) h = cutV (h.obj b) i 12 := ld_agg Try.underlying31 inf31 rfl rfl
theorem st31 {cs : List Value} : evStore Try.prog 31 (.pointer (some ⟨b, i, none⟩)) (.agg ⟨cs⟩) h = putV h b i 12 cs (h.obj b) := st_agg inf31 rfl
theorem al31 : evAlloc Try.prog 31 h = some (.pointer (some ⟨h.nx, 0, none⟩), newRowH h .rw 1 (List.replicate 12 (w8 0#8))) := al_eq inf31 rfl
theorem ia31 (hn : n < 12) : evIndexAddr Try.prog 31 (.pointer (some ⟨b, o, none⟩)) (iv n) = some (.pointer (some ⟨b, o + n * 1, none⟩)) := ia_arr Try.underlying31 inf5 rfl hn
theorem len31 {x : Value} : evLenB Try.prog 31 x = some (iv 12) := len_arr Try.underlying31
theorem sla31 {lo hh : Nat} (h1 : lo ≤ hh) (h2 : hh ≤ 12) (h3 : lo < 12) : evSlice Try.prog 31 (.pointer (some ⟨b, i, none⟩)) (some (iv lo)) (some (iv hh)) none h = some (.slice (some ⟨b, i + lo * 1, none⟩) (hh - lo) (12 - lo)) := sla Try.underlying31 inf5 rfl h1 h2 h3
theorem slh31 {hh : Nat} (h2 : hh ≤ 12) : evSlice Try.prog 31 (.pointer (some ⟨b, i, none⟩)) none (some (iv hh)) none h = some (.slice (some ⟨b, i, none⟩) hh 12) := slh Try.underlying31 inf5 rfl h2 (by decide)
theorem sll31 {lo : Nat} (h1 : lo < 12) : evSlice Try.prog 31 (.pointer (some ⟨b, i, none⟩)) (some (iv lo)) none none h = some (.slice (some ⟨b, i + lo * 1, none⟩) (12 - lo) (12 - lo)) := sll Try.underlying31 inf5 rfl h1
theorem sln31 : evSlice Try.prog 31 (.pointer (some ⟨b, i, none⟩)) none none none h = some (.slice (some ⟨b, i, none⟩) 12 12) := sln Try.underlying31 inf5 (by decide)
theorem ix31 {cs : List Value} (hn : n < 12) : evIndex Try.prog 31 (.agg ⟨cs⟩) (iv n) = cs[n]? := ix_arr Try.underlying31 Try.underlying5 rfl inf5 rfl hn
theorem inf32 : Try.prog.info? 32 = some Try.t32 := by kernel_rfl
theorem ld32 : evLoad Try.prog 32 (.pointer (some ⟨b, i, none⟩)) h = cutV (h.obj b) i 12 := ld_agg Try.underlying32 inf32 rfl rfl
theorem st32 {cs : List Value} : evStore Try.prog 32 (.pointer (some ⟨b, i, none⟩)) (.agg ⟨cs⟩) h = putV h b i 12 cs (h.obj b) := st_agg inf32 rfl
theorem al32 : evAlloc Try.prog 32 h = some (.pointer (some ⟨h.nx, 0, none⟩), newRowH h .rw 1 (List.replicate 12 (w8 0#8))) := al_eq inf32 rfl
theorem ia32 (hn : n < 12) : evIndexAddr Try.prog 32 (.pointer (some ⟨b, o, none⟩)) (iv n) = some (.pointer (some ⟨b, o + n * 1, none⟩)) := ia_arr Try.underlying32 inf5 rfl hn
theorem len32 {x : Value} : evLenB Try.prog 32 x = some (iv 12) := len_arr Try.underlying32
theorem sla32 {lo hh : Nat} (h1 : lo ≤ hh) (h2 : hh ≤ 12) (h3 : lo < 12) : evSlice Try.prog 32 (.pointer (some ⟨b, i, none⟩)) (some (iv lo)) (some (iv hh)) none h = some (.slice (some ⟨b, i + lo * 1, none⟩) (hh - lo) (12 - lo)) := sla Try.underlying32 inf5 rfl h1 h2 h3
theorem slh32 {hh : Nat} (h2 : hh ≤ 12) : evSlice Try.prog 32 (.pointer (some ⟨b, i, none⟩)) none (some (iv hh)) none h = some (.slice (some ⟨b, i, none⟩) hh 12) := slh Try.underlying32 inf5 rfl h2 (by decide)
theorem sll32 {lo : Nat} (h1 : lo < 12) : evSlice Try.prog 32 (.pointer (some ⟨b, i, none⟩)) (some (iv lo)) none none h = some (.slice (some ⟨b, i + lo * 1, none⟩) (12 - lo) (12 - lo)) := sll Try.underlying32 inf5 rfl h1
theorem sln32 : evSlice Try.prog 32 (.pointer (some ⟨b, i, none⟩)) none none none h = some (.slice (some ⟨b, i, none⟩) 12 12) := sln Try.underlying32 inf5 (by decide)
theorem ix32 {cs : List Value} (hn : n < 12) : evIndex Try.prog 32 (.agg ⟨cs⟩) (iv n) = cs[n]? := ix_arr Try.underlying32 Try.underlying5 rfl inf5 rfl hn
theorem inf33 : Try.prog.info? 33 = some Try.t33 := by kernel_rfl
theorem ld33 : evLoad Try.prog 33 (.pointer (some ⟨b, i, none⟩)) h = cutV (h.obj b) i 64 := ld_agg Try.underlying33 inf33 rfl rfl
theorem st33 {cs : List Value} : evStore Try.prog 33 (.pointer (some ⟨b, i, none⟩)) (.agg ⟨cs⟩) h = putV h b i 64 cs (h.obj b) := st_agg inf33 rfl
theorem al33 : evAlloc Try.prog 33 h = some (.pointer (some ⟨h.nx, 0, none⟩), newRowH h .rw 1 (List.replicate 64 (w8 0#8))) := al_eq inf33 rfl
theorem ia33 (hn : n < 64) : evIndexAddr Try.prog 33 (.pointer (some ⟨b, o, none⟩)) (iv n) = some (.pointer (some ⟨b, o + n * 1, none⟩)) := ia_arr Try.underlying33 inf5 rfl hn
theorem len33 {x : Value} : evLenB Try.prog 33 x = some (iv 64) := len_arr Try.underlying33
theorem sla33 {lo hh : Nat} (h1 : lo ≤ hh) (h2 : hh ≤ 64) (h3 : lo < 64) : evSlice Try.prog 33 (.pointer (some ⟨b, i, none⟩)) (some (iv lo)) (some (iv hh)) none h = some (.slice (some ⟨b, i + lo * 1, none⟩) (hh - lo) (64 - lo)) := sla Try.underlying33 inf5 rfl h1 h2 h3
theorem slh33 {hh : Nat} (h2 : hh ≤ 64) : evSlice Try.prog 33 (.pointer (some ⟨b, i, none⟩)) none (some (iv hh)) none h = some (.slice (some ⟨b, i, none⟩) hh 64) := slh Try.underlying33 inf5 rfl h2 (by decide)
theorem sll33 {lo : Nat} (h1 : lo < 64) : evSlice Try.prog 33 (.pointer (some ⟨b, i, none⟩)) (some (iv lo)) none none h = some (.slice (some ⟨b, i + lo * 1, none⟩) (64 - lo) (64 - lo)) := sll Try.underlying33 inf5 rfl h1
theorem sln33 : evSlice Try.prog 33 (.pointer (some ⟨b, i, none⟩)) none none none h = some (.slice (some ⟨b, i, none⟩) 64 64) := sln Try.underlying33 inf5 (by decide)
theorem ix33 {cs : List Value} (hn : n < 64) : evIndex Try.prog 33 (.agg ⟨cs⟩) (iv n) = cs[n]? := ix_arr Try.underlying33 Try.underlying5 rfl inf5 rfl hn
theorem inf34 : Try.prog.info? 34 = some Try.t34 := by kernel_rfl
theorem ld34 : evLoad Try.prog 34 (.pointer (some ⟨b, i, none⟩)) h = cellV (h.obj b) i := ld_scalar Try.underlying34 inf34 rfl
theorem st34 (f : Fn) (x y : Array Value) : evStore Try.prog 34 (.pointer (some ⟨b, i, none⟩)) (.func f x y) h = put1 h b i (.func f x y) (h.obj b) := st_one inf34 rfl rfl rfl
theorem al34 : evAlloc Try.prog 34 h = some (.pointer (some ⟨h.nx, 0, none⟩), newRowH h .rw 1 ([.nilFunc])) := al_eq inf34 rfl
theorem inf35 : Try.prog.info? 35 = some Try.t35 := by kernel_rfl
theorem ld35 : evLoad Try.prog 35 (.pointer (some ⟨b, i, none⟩)) h = cellV (h.obj b) i := ld_scalar Try.underlying35 inf35 rfl
theorem st35 (f : Fn) (x y : Array Value) : evStore Try.prog 35 (.pointer (some ⟨b, i, none⟩)) (.func f x y) h = put1 h b i (.func f x y) (h.obj b) := st_one inf35 rfl rfl rfl
theorem al35 : evAlloc Try.prog 35 h = some (.pointer (some ⟨h.nx, 0, none⟩), newRowH h .rw 1 ([.nilFunc])) := al_eq inf35 rfl
theorem inf38 : Try.prog.info? 38 = some Try.t38 := by kernel_rfl
theorem ld38 : evLoad Try.prog 38 (.pointer (some ⟨b, i, none⟩)) h = cellV (h.obj b) i := ld_scalar Try.underlying38 inf38 rfl
theorem st38 (a : Option Addr) (m c : Nat) : evStore Try.prog 38 (.pointer (some ⟨b, i, none⟩)) (.slice a m c) h = put1 h b i (.slice a m c) (h.obj b) := st_one inf38 rfl rfl rfl
theorem al38 : evAlloc Try.prog 38 h = some (.pointer (some ⟨h.nx, 0, none⟩), newRowH h .rw 1 ([.slice none 0 0])) := al_eq inf38 rfl
theorem ia38 {len c : Nat} (hn : n < len) : evIndexAddr Try.prog 38 (.slice (some ⟨b, o, none⟩) len c) (iv n) = some (.pointer (some ⟨b, o + n * 1, none⟩)) := ia_sl Try.underlying38 inf5 rfl hn
theorem len38 {a : Option Addr} {c : Nat} : evLenB Try.prog 38 (.slice a n c) = some (iv n) := len_sl Try.underlying38
theorem inf39 : Try.prog.info? 39 = some Try.t39 := by kernel_rfl
theorem ld39 : evLoad Try.prog 39 (.pointer (some ⟨b, i, none⟩)) h = cellV (h.obj b) i := ld_scalar Try.underlying39 inf39 rfl
theorem st39 (f : Fn) (x y : Array Value) : evStore Try.prog 39 (.pointer (some ⟨b, i, none⟩)) (.func f x y) h = put1 h b i (.func f x y) (h.obj b) := st_one inf39 rfl rfl rfl
theorem al39 : evAlloc Try.prog 39 h = some (.pointer (some ⟨h.nx, 0, none⟩), newRowH h .rw 1 ([.nilFunc])) := al_eq inf39 rfl
theorem inf40 : Try.prog.info? 40 = some Try.t40 := by kernel_rfl
theorem ld40 : evLoad Try.prog 40 (.pointer (some ⟨b, i, none⟩)) h = cellV (h.obj b) i := ld_scalar Try.underlying40 inf40 rfl
theorem st40 (f : Fn) (x y : Array Value) : evStore Try.prog 40 (.pointer (some ⟨b, i, none⟩)) (.func f x y) h = put1 h b i (.func f x y) (h.obj b) := st_one inf40 rfl rfl rfl
theorem al40 : evAlloc Try.prog 40 h = some (.pointer (some ⟨h.nx, 0, none⟩), newRowH h .rw 1 ([.nilFunc])) := al_eq inf40 rfl
theorem inf41 : Try.prog.info? 41 = some Try.t41 := by kernel_rfl
theorem ld41 : evLoad Try.prog 41 (.pointer (some ⟨b, i, none⟩)) h = cellV (h.obj b) i := ld_scalar Try.underlying41 inf41 rfl
theorem st41 (f : Fn) (x y : Array Value) : evStore Try.prog 41 (.pointer (some ⟨b, i, none⟩)) (.func f x y) h = put1 h b i (.func f x y) (h.obj b) := st_one inf41 rfl rfl rfl
theorem al41 : evAlloc Try.prog 41 h = some (.pointer (some ⟨h.nx, 0, none⟩), newRowH h .rw 1 ([.nilFunc])) := al_eq inf41 rfl
theorem inf42 : Try.prog.info? 42 = some Try.t42 := by kernel_rfl
theorem ld42 : evLoad Try.prog 42 (.pointer (some ⟨b, i, none⟩)) h = cellV (h.obj b) i := ld_scalar Try.underlying42 inf42 rfl
theorem st42 (f : Fn) (x y : Array Value) : evStore Try.prog 42 (.pointer (some ⟨b, i, none⟩)) (.func f x y) h = put1 h b i (.func f x y) (h.obj b) := st_one inf42 rfl rfl rfl
theorem al42 : evAlloc Try.prog 42 h = some (.pointer (some ⟨h.nx, 0, none⟩), newRowH h .rw 1 ([.nilFunc])) := al_eq inf42 rfl
theorem inf43 : Try.prog.info? 43 = some Try.t43 := by kernel_rfl
theorem ld43 : evLoad Try.prog 43 (.pointer (some ⟨b, i, none⟩)) h = cellV (h.obj b) i := ld_scalar Try.underlying43 inf43 rfl
theorem st43 (f : Fn) (x y : Array Value) : evStore Try.prog 43 (.pointer (some ⟨b, i, none⟩)) (.func f x y) h = put1 h b i (.func f x y) (h.obj b) := st_one inf43 rfl rfl rfl
theorem al43 : evAlloc Try.prog 43 h = some (.pointer (some ⟨h.nx, 0, none⟩), newRowH h .rw 1 ([.nilFunc])) := al_eq inf43 rfl
theorem inf44 : Try.prog.info? 44 = some Try.t44 := by kernel_rfl
theorem ld44 : evLoad Try.prog 44 (.pointer (some ⟨b, i, none⟩)) h = cellV (h.obj b) i := ld_scalar Try.underlying44 inf44 rfl
theorem st44 (f : Fn) (x y : Array Value) : evStore Try.prog 44 (.pointer (some ⟨b, i, none⟩)) (.func f x y) h = put1 h b i (.func f x y) (h.obj b) := st_one inf44 rfl rfl rfl
theorem al44 : evAlloc Try.prog 44 h = some (.pointer (some ⟨h.nx, 0, none⟩), newRowH h .rw 1 ([.nilFunc])) := al_eq inf44 rfl
theorem inf45 : Try.prog.info? 45 = some Try.t45 := by kernel_rfl
theorem ld45 : evLoad Try.prog 45 (.pointer (some ⟨b, i, none⟩)) h = cellV (h.obj b) i := ld_scalar Try.underlying45 inf45 rfl
theorem st45 (f : Fn) (x y : Array Value) : evStore Try.prog 45 (.pointer (some ⟨b, i, none⟩)) (.func f x y) h = put1 h b i (.func f x y) (h.obj b) := st_one inf45 rfl rfl rfl
theorem al45 : evAlloc Try.prog 45 h = some (.pointer (some ⟨h.nx, 0, none⟩), newRowH h .rw 1 ([.nilFunc])) := al_eq inf45 rfl
theorem inf46 : Try.prog.info? 46 = some Try.t46 := by kernel_rfl
theorem ld46 : evLoad Try.prog 46 (.pointer (some ⟨b, i, none⟩)) h = cellV (h.obj b) i := ld_scalar Try.underlying46 inf46 rfl
theorem st46 (f : Fn) (x y : Array Value) : evStore Try.prog 46 (.pointer (some ⟨b, i, none⟩)) (.func f x y) h = put1 h b i (.func f x y) (h.obj b) := st_one inf46 rfl rfl rfl
theorem al46 : evAlloc Try.prog 46 h = some (.pointer (some ⟨h.nx, 0, none⟩), newRowH h .rw 1 ([.nilFunc])) := al_eq inf46 rfl
theorem inf47 : Try.prog.info? 47 = some Try.t47 := by kernel_rfl
theorem ld47 : evLoad Try.prog 47 (.pointer (some ⟨b, i, none⟩)) h = cutV (h.obj b) i 8 := ld_agg Try.underlying47 inf47 rfl rfl
theorem st47 {cs : List Value} : evStore Try.prog 47 (.pointer (some ⟨b, i, none⟩)) (.agg ⟨cs⟩) h = putV h b i 8 cs (h.obj b) := st_agg inf47 rfl
theorem al47 : evAlloc Try.prog 47 h = some (.pointer (some ⟨h.nx, 0, none⟩), newRowH h .rw 1 (List.replicate 8 (w32 0#32))) := al_eq inf47 rfl
theorem ia47 (hn : n < 8) : evIndexAddr Try.prog 47 (.pointer (some ⟨b, o, none⟩)) (iv n) = some (.pointer (some ⟨b, o + n * 1, none⟩)) := ia_arr Try.underlying47 inf22 rfl hn
theorem len47 {x : Value} : evLenB Try.prog 47 x = some (iv 8) := len_arr Try.underlying47
theorem sla47 {lo hh : Nat} (h1 : lo ≤ hh) (h2 : hh ≤ 8) (h3 : lo < 8) : evSlice Try.prog 47 (.pointer (some ⟨b, i, none⟩)) (some (iv lo)) (some (iv hh)) none h = some (.slice (some ⟨b, i + lo * 1, none⟩) (hh - lo) (8 - lo)) := sla Try.underlying47 inf22 rfl h1 h2 h3
theorem slh47 {hh : Nat} (h2 : hh ≤ 8) : evSlice Try.prog 47 (.pointer (some ⟨b, i, none⟩)) none (some (iv hh)) none h = some (.slice (some ⟨b, i, none⟩) hh 8) := slh Try.underlying47 inf22 rfl h2 (by decide)
theorem sll47 {lo : Nat} (h1 : lo < 8) : evSlice Try.prog 47 (.pointer (some ⟨b, i, none⟩)) (some (iv lo)) none none h = some (.slice (some ⟨b, i + lo * 1, none⟩) (8 - lo) (8 - lo)) := sll Try.underlying47 inf22 rfl h1
theorem sln47 : evSlice Try.prog 47 (.pointer (some ⟨b, i, none⟩)) none none none h = some (.slice (some ⟨b, i, none⟩) 8 8) := sln Try.underlying47 inf22 (by decide)
theorem ix47 {cs : List Value} (hn : n < 8) : evIndex Try.prog 47 (.agg ⟨cs⟩) (iv n) = cs[n]? := ix_arr Try.underlying47 Try.underlying22 rfl inf22 rfl hn
theorem inf48 : Try.prog.info? 48 = some Try.t48 := by kernel_rfl
theorem ld48 : evLoad Try.prog 48 (.pointer (some ⟨b, i, none⟩)) h = cutV (h.obj b) i 8 := ld_agg Try.underlying48 inf48 rfl rfl
theorem st48 {cs : List Value} : evStore Try.prog 48 (.pointer (some ⟨b, i, none⟩)) (.agg ⟨cs⟩) h = putV h b i 8 cs (h.obj b) := st_agg inf48 rfl
theorem al48 : evAlloc Try.prog 48 h = some (.pointer (some ⟨h.nx, 0, none⟩), newRowH h .rw 1 (List.replicate 8 (w32 0#32))) := al_eq inf48 rfl
theorem ia48 (hn : n < 8) : evIndexAddr Try.prog 48 (.pointer (some ⟨b, o, none⟩)) (iv n) = some (.pointer (some ⟨b, o + n * 1, none⟩)) := ia_arr Try.underlying48 inf22 rfl hn
theorem len48 {x : Value} : evLenB Try.prog 48 x = some (iv 8) := len_arr Try.underlying48
theorem sla48 {lo hh : Nat} (h1 : lo ≤ hh) (h2 : hh ≤ 8) (h3 : lo < 8) : evSlice Try.prog 48 (.pointer (some ⟨b, i, none⟩)) (some (iv lo)) (some (iv hh)) none h = some (.slice (some ⟨b, i + lo * 1, none⟩) (hh - lo) (8 - lo)) := sla Try.underlying48 inf22 rfl h1 h2 h3
theorem slh48 {hh : Nat} (h2 : hh ≤ 8) : evSlice Try.prog 48 (.pointer (some ⟨b, i, none⟩)) none (some (iv hh)) none h = some (.slice (some ⟨b, i, none⟩) hh 8) := slh Try.underlying48 inf22 rfl h2 (by decide)
theorem sll48 {lo : Nat} (h1 : lo < 8) : evSlice Try.prog 48 (.pointer (some ⟨b, i, none⟩)) (some (iv lo)) none none h = some (.slice (some ⟨b, i + lo * 1, none⟩) (8 - lo) (8 - lo)) := sll Try.underlying48 inf22 rfl h1
theorem sln48 : evSlice Try.prog 48 (.pointer (some ⟨b, i, none⟩)) none none none h = some (.slice (some ⟨b, i, none⟩) 8 8) := sln Try.underlying48 inf22 (by decide)
theorem ix48 {cs : List Value} (hn : n < 8) : evIndex Try.prog 48 (.agg ⟨cs⟩) (iv n) = cs[n]? := ix_arr Try.underlying48 Try.underlying22 rfl inf22 rfl hn
theorem inf49 : Try.prog.info? 49 = some Try.t49 := by kernel_rfl
theorem ld49 : evLoad Try.prog 49 (.pointer (some ⟨b, i, none⟩)) h = cellV (h.obj b) i := ld_scalar Try.underlying49 inf49 rfl
theorem st49 (f : Fn) (x y : Array Value) : evStore Try.prog 49 (.pointer (some ⟨b, i, none⟩)) (.func f x y) h = put1 h b i (.func f x y) (h.obj b) := st_one inf49 rfl rfl rfl
theorem al49 : evAlloc Try.prog 49 h = some (.pointer (some ⟨h.nx, 0, none⟩), newRowH h .rw 1 ([.nilFunc])) := al_eq inf49 rfl
theorem inf50 : Try.prog.info? 50 = some Try.t50 := by kernel_rfl
theorem ld50 : evLoad Try.prog 50 (.pointer (some ⟨b, i, none⟩)) h = cellV (h.obj b) i := ld_scalar Try.underlying50 inf50 rfl
theorem st50 (f : Fn) (x y : Array Value) : evStore Try.prog 50 (.pointer (some ⟨b, i, none⟩)) (.func f x y) h = put1 h b i (.func f x y) (h.obj b) := st_one inf50 rfl rfl rfl
theorem al50 : evAlloc Try.prog 50 h = some (.pointer (some ⟨h.nx, 0, none⟩), newRowH h .rw 1 ([.nilFunc])) := al_eq inf50 rfl
theorem inf51 : Try.prog.info? 51 = some Try.t51 := by kernel_rfl
theorem ld51 : evLoad Try.prog 51 (.pointer (some ⟨b, i, none⟩)) h = cellV (h.obj b) i := ld_scalar Try.underlying51 inf51 rfl
theorem st51 (f : Fn) (x y : Array Value) : evStore Try.prog 51 (.pointer (some ⟨b, i, none⟩)) (.func f x y) h = put1 h b i (.func f x y) (h.obj b) := st_one inf51 rfl rfl rfl
theorem al51 : evAlloc Try.prog 51 h = some (.pointer (some ⟨h.nx, 0, none⟩), newRowH h .rw 1 ([.nilFunc])) := al_eq inf51 rfl
theorem inf52 : Try.prog.info? 52 = some Try.t52 := by kernel_rfl
theorem ld52 : evLoad Try.prog 52 (.pointer (some ⟨b, i, none⟩)) h = cellV (h.obj b) i := ld_scalar Try.underlying52 inf52 rfl
theorem st52 (f : Fn) (x y : Array Value) : evStore Try.prog 52 (.pointer (some ⟨b, i, none⟩)) (.func f x y) h = put1 h b i (.func f x y) (h.obj b) := st_one inf52 rfl rfl rfl
theorem al52 : evAlloc Try.prog 52 h = some (.pointer (some ⟨h.nx, 0, none⟩), newRowH h .rw 1 ([.nilFunc])) := al_eq inf52 rfl
theorem inf53 : Try.prog.info? 53 = some Try.t53 := by kernel_rfl
theorem ld53 : evLoad Try.prog 53 (.pointer (some ⟨b, i, none⟩)) h = cellV (h.obj b) i := ld_scalar Try.underlying53 inf53 rfl
theorem st53 (f : Fn) (x y : Array Value) : evStore Try.prog 53 (.pointer (some ⟨b, i, none⟩)) (.func f x y) h = put1 h b i (.func f x y) (h.obj b) := st_one inf53 rfl rfl rfl
theorem al53 : evAlloc Try.prog 53 h = some (.pointer (some ⟨h.nx, 0, none⟩), newRowH h .rw 1 ([.nilFunc])) := al_eq inf53 rfl
theorem inf54 : Try.prog.info? 54 = some Try.t54 := by kernel_rfl
theorem ld54 : evLoad Try.prog 54 (.pointer (some ⟨b, i, none⟩)) h = cellV (h.obj b) i := ld_scalar Try.underlying54 inf54 rfl
theorem st54 (f : Fn) (x y : Array Value) : evStore Try.prog 54 (.pointer (some ⟨b, i, none⟩)) (.func f x y) h = put1 h b i (.func f x y) (h.obj b) := st_one inf54 rfl rfl rfl
theorem al54 : evAlloc Try.prog 54 h = some (.pointer (some ⟨h.nx, 0, none⟩), newRowH h .rw 1 ([.nilFunc])) := al_eq inf54 rfl
theorem inf55 : Try.prog.info? 55 = some Try.t55 := by kernel_rfl
theorem ld55 : evLoad Try.prog 55 (.pointer (some ⟨b, i, none⟩)) h = cellV (h.obj b) i := ld_scalar Try.underlying55 inf55 rfl
theorem st55 (f : Fn) (x y : Array Value) : evStore Try.prog 55 (.pointer (some ⟨b, i, none⟩)) (.func f x y) h = put1 h b i (.func f x y) (h.obj b) := st_one inf55 rfl rfl rfl
theorem al55 : evAlloc Try.prog 55 h = some (.pointer (some ⟨h.nx, 0, none⟩), newRowH h .rw 1 ([.nilFunc])) := al_eq inf55 rfl
theorem inf56 : Try.prog.info? 56 = some Try.t56 := by kernel_rfl
theorem ld56 : evLoad Try.prog 56 (.pointer (some ⟨b, i, none⟩)) h = cutV (h.obj b) i 16 := ld_agg Try.underlying56 inf56 rfl rfl
theorem st56 {cs : List Value} : evStore Try.prog 56 (.pointer (some ⟨b, i, none⟩)) (.agg ⟨cs⟩) h = putV h b i 16 cs (h.obj b) := st_agg inf56 rfl
theorem al56 : evAlloc Try.prog 56 h = some (.pointer (some ⟨h.nx, 0, none⟩), newRowH h .rw 1 (List.replicate 16 (w8 0#8))) := al_eq inf56 rfl
theorem ia56 (hn : n < 16) : evIndexAddr Try.prog 56 (.pointer (some ⟨b, o, none⟩)) (iv n) = some (.pointer (some ⟨b, o + n * 1, none⟩)) := ia_arr Try.underlying56 inf5 rfl hn
theorem len56 {x : Value} : evLenB Try.prog 56 x = some (iv 16) := len_arr Try.underlying56
theorem sla56 {lo hh : Nat} (h1 : lo ≤ hh) (h2 : hh ≤ 16) (h3 : lo < 16) : evSlice Try.prog 56 (.pointer (some ⟨b, i, none⟩)) (some (iv lo)) (some (iv hh)) none h = some (.slice (some ⟨b, i + lo * 1, none⟩) (hh - lo) (16 - lo)) := sla Try.underlying56 inf5 rfl h1 h2 h3
theorem slh56 {hh : Nat} (h2 : hh ≤ 16) : evSlice Try.prog 56 (.pointer (some ⟨b, i, none⟩)) none (some (iv hh)) none h = some (.slice (some ⟨b, i, none⟩) hh 16) := slh Try.underlying56 inf5 rfl h2 (by decide)
theorem sll56 {lo : Nat} (h1 : lo < 16) : evSlice Try.prog 56 (.pointer (some ⟨b, i, none⟩)) (some (iv lo)) none none h = some (.slice (some ⟨b, i + lo * 1, none⟩) (16 - lo) (16 - lo)) := sll Try.underlying56 inf5 rfl h1
theorem sln56 : evSlice Try.prog 56 (.pointer (some ⟨b, i, none⟩)) none none none h = some (.slice (some ⟨b, i, none⟩) 16 16) := sln Try.underlying56 inf5 (by decide)
theorem ix56 {cs : List Value} (hn : n < 16) : evIndex Try.prog 56 (.agg ⟨cs⟩) (iv n) = cs[n]? := ix_arr Try.underlying56 Try.underlying5 rfl inf5 rfl hn
theorem inf57 : Try.prog.info? 57 = some Try.t57 := by kernel_rfl
theorem ld57 : evLoad Try.prog 57 (.pointer (some ⟨b, i, none⟩)) h = cutV (h.obj b) i 16 := ld_agg Try.underlying57 inf57 rfl rfl
theorem st57 {cs : List Value} : evStore Try.prog 57 (.pointer (some ⟨b, i, none⟩)) (.agg ⟨cs⟩) h = putV h b i 16 cs (h.obj b) := st_agg inf57 rfl
theorem al57 : evAlloc Try.prog 57 h = some (.pointer (some ⟨h.nx, 0, none⟩), newRowH h .rw 1 (List.replicate 16 (w8 0#8))) := al_eq inf57 rfl
theorem ia57 (hn : n < 16) : evIndexAddr Try.prog 57 (.pointer (some ⟨b, o, none⟩)) (iv n) = some (.pointer (some ⟨b, o + n * 1, none⟩)) := ia_arr Try.underlying57 inf5 rfl hn
theorem len57 {x : Value} : evLenB Try.prog 57 x = some (iv 16) := len_arr Try.underlying57
theorem sla57 {lo hh : Nat} (h1 : lo ≤ hh) (h2 : hh ≤ 16) (h3 : lo < 16) : evSlice Try.prog 57 (.pointer (some ⟨b, i, none⟩)) (some (iv lo)) (some (iv hh)) none h = some (.slice (some ⟨b, i + lo * 1, none⟩) (hh - lo) (16 - lo)) := sla Try.underlying57 inf5 rfl h1 h2 h3
theorem slh57 {hh : Nat} (h2 : hh ≤ 16) : evSlice Try.prog 57 (.pointer (some ⟨b, i, none⟩)) none (some (iv hh)) none h = some (.slice (some ⟨b, i, none⟩) hh 16) := slh Try.underlying57 inf5 rfl h2 (by decide)
theorem sll57 {lo : Nat} (h1 : lo < 16) : evSlice Try.prog 57 (.pointer (some ⟨b, i, none⟩)) (some (iv lo)) none none h = some (.slice (some ⟨b, i + lo * 1, none⟩) (16 - lo) (16 - lo)) := sll Try.underlying57 inf5 rfl h1
theorem sln57 : evSlice Try.prog 57 (.pointer (some ⟨b, i, none⟩)) none none none h = some (.slice (some ⟨b, i, none⟩) 16 16) := sln Try.underlying57 inf5 (by decide)
theorem ix57 {cs : List Value} (hn : n < 16) : evIndex Try.prog 57 (.agg ⟨cs⟩) (iv n) = cs[n]? := ix_arr Try.underlying57 Try.underlying5 rfl inf5 rfl hn
theorem inf58 : Try.prog.info? 58 = some Try.t58 := by kernel_rfl
theorem ld58 : evLoad Try.prog 58 (.pointer (some ⟨b, i, none⟩)) h = cellV (h.obj b) i := ld_scalar Try.underlying58 inf58 rfl
theorem st58 (f : Fn) (x y : Array Value) : evStore Try.prog 58 (.pointer (some ⟨b, i, none⟩)) (.func f x y) h = put1 h b i (.func f x y) (h.obj b) := st_one inf58 rfl rfl rfl
theorem al58 : evAlloc Try.prog 58 h = some (.pointer (some ⟨h.nx, 0, none⟩), newRowH h .rw 1 ([.nilFunc])) := al_eq inf58 rfl
theorem inf59 : Try.prog.info? 59 = some Try.t59 := by kernel_rfl
theorem ld59 : evLoad Try.prog 59 (.pointer (some ⟨b, i, none⟩)) h = cellV (h.obj b) i := ld_scalar Try.underlying59 inf59 rfl
theorem st59 (f : Fn) (x y : Array Value) : evStore Try.prog 59 (.pointer (some ⟨b, i, none⟩)) (.func f x y) h = put1 h b i (.func f x y) (h.obj b) := st_one inf59 rfl rfl rfl
theorem al59 : evAlloc Try.prog 59 h = some (.pointer (some ⟨h.nx, 0, none⟩), newRowH h .rw 1 ([.nilFunc])) := al_eq inf59 rfl
theorem inf60 : Try.prog.info? 60 = some Try.t60 := by kernel_rfl
theorem ld60 : evLoad Try.prog 60 (.pointer (some ⟨b, i, none⟩)) h = cellV (h.obj b) i := ld_scalar Try.underlying60 inf60 rfl
theorem st60 (f : Fn) (x y : Array Value) : evStore Try.prog 60 (.pointer (some ⟨b, i, none⟩)) (.func f x y) h = put1 h b i (.func f x y) (h.obj b) := st_one inf60 rfl rfl rfl
theorem al60 : evAlloc Try.prog 60 h = some (.pointer (some ⟨h.nx, 0, none⟩), newRowH h .rw 1 ([.nilFunc])) := al_eq inf60 rfl
theorem inf61 : Try.prog.info? 61 = some Try.t61 := by kernel_rfl
theorem ld61 : evLoad Try.prog 61 (.pointer (some ⟨b, i, none⟩)) h = cellV (h.obj b) i := ld_scalar Try.underlying61 inf61 rfl
theorem st61 (f : Fn) (x y : Array Value) : evStore Try.prog 61 (.pointer (some ⟨b, i, none⟩)) (.func f x y) h = put1 h b i (.func f x y) (h.obj b) := st_one inf61 rfl rfl rfl
theorem al61 : evAlloc Try.prog 61 h = some (.pointer (some ⟨h.nx, 0, none⟩), newRowH h .rw 1 ([.nilFunc])) := al_eq inf61 rfl
theorem inf62 : Try.prog.info? 62 = some Try.t62 := by kernel_rfl
theorem ld62 : evLoad Try.prog 62 (.pointer (some ⟨b, i, none⟩)) h = cellV (h.obj b) i := ld_scalar Try.underlying62 inf62 rfl
theorem st62 (f : Fn) (x y : Array Value) : evStore Try.prog 62 (.pointer (some ⟨b, i, none⟩)) (.func f x y) h = put1 h b i (.func f x y) (h.obj b) := st_one inf62 rfl rfl rfl
theorem al62 : evAlloc Try.prog 62 h = some (.pointer (some ⟨h.nx, 0, none⟩), newRowH h .rw 1 ([.nilFunc])) := al_eq inf62 rfl
theorem inf63 : Try.prog.info? 63 = some Try.t63 := by kernel_rfl
theorem ld63 : evLoad Try.prog 63 (.pointer (some ⟨b, i, none⟩)) h = cellV (h.obj b) i := ld_scalar Try.underlying63 inf63 rfl
theorem st63 (f : Fn) (x y : Array Value) : evStore Try.prog 63 (.pointer (some ⟨b, i, none⟩)) (.func f x y) h = put1 h b i (.func f x y) (h.obj b) := st_one inf63 rfl rfl rfl
theorem al63 : evAlloc Try.prog 63 h = some (.pointer (some ⟨h.nx, 0, none⟩), newRowH h .rw 1 ([.nilFunc])) := al_eq inf63 rfl
theorem inf64 : Try.prog.info? 64 = some Try.t64 := by kernel_rfl
theorem ld64 : evLoad Try.prog 64 (.pointer (some ⟨b, i, none⟩)) h = cellV (h.obj b) i := ld_scalar Try.underlying64 inf64 rfl
theorem st64 (f : Fn) (x y : Array Value) : evStore Try.prog 64 (.pointer (some ⟨b, i, none⟩)) (.func f x y) h = put1 h b i (.func f x y) (h.obj b) := st_one inf64 rfl rfl rfl
theorem al64 : evAlloc Try.prog 64 h = some (.pointer (some ⟨h.nx, 0, none⟩), newRowH h .rw 1 ([.nilFunc])) := al_eq inf64 rfl
theorem inf65 : Try.prog.info? 65 = some Try.t65 := by kernel_rfl
theorem ld65 : evLoad Try.prog 65 (.pointer (some ⟨b, i, none⟩)) h = cutV (h.obj b) i 2 := ld_agg Try.underlying65 inf65 rfl rfl
theorem st65 {cs : List Value} : evStore Try.prog 65 (.pointer (some ⟨b, i, none⟩)) (.agg ⟨cs⟩) h = putV h b i 2 cs (h.obj b) := st_agg inf65 rfl
theorem al65 : evAlloc Try.prog 65 h = some (.pointer (some ⟨h.nx, 0, none⟩), newRowH h .rw 1 (List.replicate 2 (w8 0#8))) := al_eq inf65 rfl
theorem ia65 (hn : n < 2) : evIndexAddr Try.prog 65 (.pointer (some ⟨b, o, none⟩)) (iv n) = some (.pointer (some ⟨b, o + n * 1, none⟩)) := ia_arr Try.underlying65 inf5 rfl hn
theorem len65 {x : Value} : evLenB Try.prog 65 x = some (iv 2) := len_arr Try.underlying65
theorem sla65 {lo hh : Nat} (h1 : lo ≤ hh) (h2 : hh ≤ 2) (h3 : lo < 2) : evSlice Try.prog 65 (.pointer (some ⟨b, i, none⟩)) (some (iv lo)) (some (iv hh)) none h = some (.slice (some ⟨b, i + lo * 1, none⟩) (hh - lo) (2 - lo)) := sla Try.underlying65 inf5 rfl h1 h2 h3
theorem slh65 {hh : Nat} (h2 : hh ≤ 2) : evSlice Try.prog 65 (.pointer (some ⟨b, i, none⟩)) none (some (iv hh)) none h = some (.slice (some ⟨b, i, none⟩) hh 2) := slh Try.underlying65 inf5 rfl h2 (by decide)
theorem sll65 {lo : Nat} (h1 : lo < 2) : evSlice Try.prog 65 (.pointer (some ⟨b, i, none⟩)) (some (iv lo)) none none h = some (.slice (some ⟨b, i + lo * 1, none⟩) (2 - lo) (2 - lo)) := sll Try.underlying65 inf5 rfl h1
theorem sln65 : evSlice Try.prog 65 (.pointer (some ⟨b, i, none⟩)) none none none h = some (.slice (some ⟨b, i, none⟩) 2 2) := sln Try.underlying65 inf5 (by decide)
theorem ix65 {cs : List Value} (hn : n < 2) : evIndex Try.prog 65 (.agg ⟨cs⟩) (iv n) = cs[n]? := ix_arr Try.underlying65 Try.underlying5 rfl inf5 rfl hn
theorem inf66 : Try.prog.info? 66 = some Try.t66 := by kernel_rfl
theorem ld66 : evLoad Try.prog 66 (.pointer (some ⟨b, i, none⟩)) h = cellV (h.obj b) i := ld_scalar Try.underlying66 inf66 rfl
theorem st66 (x : Nat) : evStore Try.prog 66 (.pointer (some ⟨b, i, none⟩)) (iv x) h = put1 h b i (iv x) (h.obj b) := st_one inf66 rfl rfl rfl
theorem al66 : evAlloc Try.prog 66 h = some (.pointer (some ⟨h.nx, 0, none⟩), newRowH h .rw 1 ([iv 0])) := al_eq inf66 rfl
theorem inf68 : Try.prog.info? 68 = some Try.t68 := by kernel_rfl
theorem ld68 : evLoad Try.prog 68 (.pointer (some ⟨b, i, none⟩)) h = cellV (h.obj b) i := ld_scalar Try.underlying68 inf68 rfl
theorem st68 (f : Fn) (x y : Array Value) : evStore Try.prog 68 (.pointer (some ⟨b, i, none⟩)) (.func f x y) h = put1 h b i (.func f x y) (h.obj b) := st_one inf68 rfl rfl rfl
theorem al68 : evAlloc Try.prog 68 h = some (.pointer (some ⟨h.nx, 0, none⟩), newRowH h .rw 1 ([.nilFunc])) := al_eq inf68 rfl
theorem inf69 : Try.prog.info? 69 = some Try.t69 := by kernel_rfl
theorem ld69 : evLoad Try.prog 69 (.pointer (some ⟨b, i, none⟩)) h = cellV (h.obj b) i := ld_scalar Try.underlying69 inf69 rfl
theorem st69 (f : Fn) (x y : Array Value) : evStore Try.prog 69 (.pointer (some ⟨b, i, none⟩)) (.func f x y) h = put1 h b i (.func f x y) (h.obj b) := st_one inf69 rfl rfl rfl
theorem al69 : evAlloc Try.prog 69 h = some (.pointer (some ⟨h.nx, 0, none⟩), newRowH h .rw 1 ([.nilFunc])) := al_eq inf69 rfl
theorem inf70 : Try.prog.info? 70 = some Try.t70 := by kernel_rfl
theorem ld70 : evLoad Try.prog 70 (.pointer (some ⟨b, i, none⟩)) h = cellV (h.obj b) i := ld_scalar Try.underlying70 inf70 rfl
theorem st70 (f : Fn) (x y : Array Value) : evStore Try.prog 70 (.pointer (some ⟨b, i, none⟩)) (.func f x y) h = put1 h b i (.func f x y) (h.obj b) := st_one inf70 rfl rfl rfl
theorem al70 : evAlloc Try.prog 70 h = some (.pointer (some ⟨h.nx, 0, none⟩), newRowH h .rw 1 ([.nilFunc])) := al_eq inf70 rfl
theorem inf71 : Try.prog.info? 71 = some Try.t71 := by kernel_rfl
theorem ld71 : evLoad Try.prog 71 (.pointer (some ⟨b, i, none⟩)) h = cellV (h.obj b) i := ld_scalar Try.underlying71 inf71 rfl
theorem st71 (f : Fn) (x y : Array Value) : evStore Try.prog 71 (.pointer (some ⟨b, i, none⟩)) (.func f x y) h = put1 h b i (.func f x y) (h.obj b) := st_one inf71 rfl rfl rfl
theorem al71 : evAlloc Try.prog 71 h = some (.pointer (some ⟨h.nx, 0, none⟩), newRowH h .rw 1 ([.nilFunc])) := al_eq inf71 rfl
theorem inf72 : Try.prog.info? 72 = some Try.t72 := by kernel_rfl
theorem ld72 : evLoad Try.prog 72 (.pointer (some ⟨b, i, none⟩)) h = cellV (h.obj b) i := ld_scalar Try.underlying72 inf72 rfl
theorem st72 (f : Fn) (x y : Array Value) : evStore Try.prog 72 (.pointer (some ⟨b, i, none⟩)) (.func f x y) h = put1 h b i (.func f x y) (h.obj b) := st_one inf72 rfl rfl rfl
theorem al72 : evAlloc Try.prog 72 h = some (.pointer (some ⟨h.nx, 0, none⟩), newRowH h .rw 1 ([.nilFunc])) := al_eq inf72 rfl
theorem inf75 : Try.prog.info? 75 = some Try.t75 := by kernel_rfl
theorem ld75 : evLoad Try.prog 75 (.pointer (some ⟨b, i, none⟩)) h = cellV (h.obj b) i := ld_scalar Try.underlying75 inf75 rfl
theorem st75 (f : Fn) (x y : Array Value) : evStore Try.prog 75 (.pointer (some ⟨b, i, none⟩)) (.func f x y) h = put1 h b i (.func f x y) (h.obj b) := st_one inf75 rfl rfl rfl
theorem al75 : evAlloc Try.prog 75 h = some (.pointer (some ⟨h.nx, 0, none⟩), newRowH h .rw 1 ([.nilFunc])) := al_eq inf75 rfl
theorem inf76 : Try.prog.info? 76 = some Try.t76 := by kernel_rfl
theorem ld76 : evLoad Try.prog 76 (.pointer (some ⟨b, i, none⟩)) h = cellV (h.obj b) i := ld_scalar Try.underlying76 inf76 rfl
theorem st76 (f : Fn) (x y : Array Value) : evStore Try.prog 76 (.pointer (some ⟨b, i, none⟩)) (.func f x y) h = put1 h b i (.func f x y) (h.obj b) := st_one inf76 rfl rfl rfl
theorem al76 : evAlloc Try.prog 76 h = some (.pointer (some ⟨h.nx, 0, none⟩), newRowH h .rw 1 ([.nilFunc])) := al_eq inf76 rfl
theorem inf77 : Try.prog.info? 77 = some Try.t77 := by kernel_rfl
theorem ld77 : evLoad Try.prog 77 (.pointer (some ⟨b, i, none⟩)) h = cellV (h.obj b) i := ld_scalar Try.underlying77 inf77 rfl
theorem st77 (f : Fn) (x y : Array Value) : evStore Try.prog 77 (.pointer (some ⟨b, i, none⟩)) (.func f x y) h = put1 h b i (.func f x y) (h.obj b) := st_one inf77 rfl rfl rfl
theorem al77 : evAlloc Try.prog 77 h = some (.pointer (some ⟨h.nx, 0, none⟩), newRowH h .rw 1 ([.nilFunc])) := al_eq inf77 rfl
theorem inf78 : Try.prog.info? 78 = some Try.t78 := by kernel_rfl
theorem ld78 : evLoad Try.prog 78 (.pointer (some ⟨b, i, none⟩)) h = cellV (h.obj b) i := ld_scalar Try.underlying78 inf78 rfl
theorem st78 (f : Fn) (x y : Array Value) : evStore Try.prog 78 (.pointer (some ⟨b, i, none⟩)) (.func f x y) h = put1 h b i (.func f x y) (h.obj b) := st_one inf78 rfl rfl rfl
theorem al78 : evAlloc Try.prog 78 h = some (.pointer (some ⟨h.nx, 0, none⟩), newRowH h .rw 1 ([.nilFunc])) := al_eq inf78 rfl
theorem inf79 : Try.prog.info? 79 = some Try.t79 := by kernel_rfl
theorem ld79 : evLoad Try.prog 79 (.pointer (some ⟨b, i, none⟩)) h = cellV (h.obj b) i := ld_scalar Try.underlying79 inf79 rfl
theorem st79 (f : Fn) (x y : Array Value) : evStore Try.prog 79 (.pointer (some ⟨b, i, none⟩)) (.func f x y) h = put1 h b i (.func f x y) (h.obj b) := st_one inf79 rfl rfl rfl
theorem al79 : evAlloc Try.prog 79 h = some (.pointer (some ⟨h.nx, 0, none⟩), newRowH h .rw 1 ([.nilFunc])) := al_eq inf79 rfl
theorem inf80 : Try.prog.info? 80 = some Try.t80 := by kernel_rfl
theorem ld80 : evLoad Try.prog 80 (.pointer (some ⟨b, i, none⟩)) h = cellV (h.obj b) i := ld_scalar Try.underlying80 inf80 rfl
theorem st80 (f : Fn) (x y : Array Value) : evStore Try.prog 80 (.pointer (some ⟨b, i, none⟩)) (.func f x y) h = put1 h b i (.func f x y) (h.obj b) := st_one inf80 rfl rfl rfl
theorem al80 : evAlloc Try.prog 80 h = some (.pointer (some ⟨h.nx, 0, none⟩), newRowH h .rw 1 ([.nilFunc])) := al_eq inf80 rfl
theorem inf81 : Try.prog.info? 81 = some Try.t81 := by kernel_rfl
theorem ld81 : evLoad Try.prog 81 (.pointer (some ⟨b, i, none⟩)) h = cutV (h.obj b) i 2 := ld_agg Try.underlying81 inf81 rfl rfl
theorem st81 {cs : List Value} : evStore Try.prog 81 (.pointer (some ⟨b, i, none⟩)) (.agg ⟨cs⟩) h = putV h b i 2 cs (h.obj b) := st_agg inf81 rfl
theorem al81 : evAlloc Try.prog 81 h = some (.pointer (some ⟨h.nx, 0, none⟩), newRowH h .rw 1 (List.replicate 2 (.slice none 0 0))) := al_eq inf81 rfl
theorem ia81 (hn : n < 2) : evIndexAddr Try.prog 81 (.pointer (some ⟨b, o, none⟩)) (iv n) = some (.pointer (some ⟨b, o + n * 1, none⟩)) := ia_arr Try.underlying81 inf38 rfl hn
theorem len81 {x : Value} : evLenB Try.prog 81 x = some (iv 2) := len_arr Try.underlying81
theorem sla81 {lo hh : Nat} (h1 : lo ≤ hh) (h2 : hh ≤ 2) (h3 : lo < 2) : evSlice Try.prog 81 (.pointer (some ⟨b, i, none⟩)) (some (iv lo)) (some (iv hh)) none h = some (.slice (some ⟨b, i + lo * 1, none⟩) (hh - lo) (2 - lo)) := sla Try.underlying81 inf38 rfl h1 h2 h3
theorem slh81 {hh : Nat} (h2 : hh ≤ 2) : evSlice Try.prog 81 (.pointer (some ⟨b, i, none⟩)) none (some (iv hh)) none h = some (.slice (some ⟨b, i, none⟩) hh 2) := slh Try.underlying81 inf38 rfl h2 (by decide)
theorem sll81 {lo : Nat} (h1 : lo < 2) : evSlice Try.prog 81 (.pointer (some ⟨b, i, none⟩)) (some (iv lo)) none none h = some (.slice (some ⟨b, i + lo * 1, none⟩) (2 - lo) (2 - lo)) := sll Try.underlying81 inf38 rfl h1
theorem sln81 : evSlice Try.prog 81 (.pointer (some ⟨b, i, none⟩)) none none none h = some (.slice (some ⟨b, i, none⟩) 2 2) := sln Try.underlying81 inf38 (by decide)
theorem ix81 {cs : List Value} (hn : n < 2) : evIndex Try.prog 81 (.agg ⟨cs⟩) (iv n) = cs[n]? := ix_arr Try.underlying81 Try.underlying38 rfl inf38 rfl hn
theorem inf82 : Try.prog.info? 82 = some Try.t82 := by kernel_rfl
theorem ld82 : evLoad Try.prog 82 (.pointer (some ⟨b, i, none⟩)) h = cellV (h.obj b) i := ld_scalar Try.underlying82 inf82 rfl
theorem st82 (f : Fn) (x y : Array Value) : evStore Try.prog 82 (.pointer (some ⟨b, i, none⟩)) (.func f x y) h = put1 h b i (.func f x y) (h.obj b) := st_one inf82 rfl rfl rfl
theorem al82 : evAlloc Try.prog 82 h = some (.pointer (some ⟨h.nx, 0, none⟩), newRowH h .rw 1 ([.nilFunc])) := al_eq inf82 rfl
theorem inf83 : Try.prog.info? 83 = some Try.t83 := by kernel_rfl
theorem ld83 : evLoad Try.prog 83 (.pointer (some ⟨b, i, none⟩)) h = cutV (h.obj b) i 16 := ld_agg Try.underlying83 inf83 rfl rfl
theorem st83 {cs : List Value} : evStore Try.prog 83 (.pointer (some ⟨b, i, none⟩)) (.agg ⟨cs⟩) h = putV h b i 16 cs (h.obj b) := st_agg inf83 rfl
theorem al83 : evAlloc Try.prog 83 h = some (.pointer (some ⟨h.nx, 0, none⟩), newRowH h .rw 1 (List.replicate 16 (w32 0#32))) := al_eq inf83 rfl
theorem ia83 (hn : n < 16) : evIndexAddr Try.prog 83 (.pointer (some ⟨b, o, none⟩)) (iv n) = some (.pointer (some ⟨b, o + n * 1, none⟩)) := ia_arr Try.underlying83 inf22 rfl hn
theorem len83 {x : Value} : evLenB Try.prog 83 x = some (iv 16) := len_arr Try.underlying83
theorem sla83 {lo hh : Nat} (h1 : lo ≤ hh) (h2 : hh ≤ 16) (h3 : lo < 16) : evSlice Try.prog 83 (.pointer (some ⟨b, i, none⟩)) (some (iv lo)) (some (iv hh)) none h = some (.slice (some ⟨b, i + lo * 1, none⟩) (hh - lo) (16 - lo)) := sla Try.underlying83 inf22 rfl h1 h2 h3
theorem slh83 {hh : Nat} (h2 : hh ≤ 16) : evSlice Try.prog 83 (.pointer (some ⟨b, i, none⟩)) none (some (iv hh)) none h = some (.slice (some ⟨b, i, none⟩) hh 16) := slh Try.underlying83 inf22 rfl h2 (by decide)
theorem sll83 {lo : Nat} (h1 : lo < 16) : evSlice Try.prog 83 (.pointer (some ⟨b, i, none⟩)) (some (iv lo)) none none h = some (.slice (some ⟨b, i + lo * 1, none⟩) (16 - lo) (16 - lo)) := sll Try.underlying83 inf22 rfl h1
theorem sln83 : evSlice Try.prog 83 (.pointer (some ⟨b, i, none⟩)) none none none h = some (.slice (some ⟨b, i, none⟩) 16 16) := sln Try.underlying83 inf22 (by decide)
theorem ix83 {cs : List Value} (hn : n < 16) : evIndex Try.prog 83 (.agg ⟨cs⟩) (iv n) = cs[n]? := ix_arr Try.underlying83 Try.underlying22 rfl inf22 rfl hn
theorem inf84 : Try.prog.info? 84 = some Try.t84 := by kernel_rfl
theorem ld84 : evLoad Try.prog 84 (.pointer (some ⟨b, i, none⟩)) h = cutV (h.obj b) i 16 := ld_agg Try.underlying84 inf84 rfl rfl
theorem st84 {cs : List Value} : evStore Try.prog 84 (.pointer (some ⟨b, i, none⟩)) (.agg ⟨cs⟩) h = putV h b i 16 cs (h.obj b) := st_agg inf84 rfl
theorem al84 : evAlloc Try.prog 84 h = some (.pointer (some ⟨h.nx, 0, none⟩), newRowH h .rw 1 (List.replicate 16 (w32 0#32))) := al_eq inf84 rfl
theorem ia84 (hn : n < 16) : evIndexAddr Try.prog 84 (.pointer (some ⟨b, o, none⟩)) (iv n) = some (.pointer (some ⟨b, o + n * 1, none⟩)) := ia_arr Try.underlying84 inf22 rfl hn
theorem len84 {x : Value} : evLenB Try.prog 84 x = some (iv 16) := len_arr Try.underlying84
theorem sla84 {lo hh : Nat} (h1 : lo ≤ hh) (h2 : hh ≤ 16) (h3 : lo < 16) : evSlice Try.prog 84 (.pointer (some ⟨b, i, none⟩)) (some (iv lo)) (some (iv hh)) none h = some (.slice (some ⟨b, i + lo * 1, none⟩) (hh - lo) (16 - lo)) := sla Try.underlying84 inf22 rfl h1 h2 h3
theorem slh84 {hh : Nat} (h2 : hh ≤ 16) : evSlice Try.prog 84 (.pointer (some ⟨b, i, none⟩)) none (some (iv hh)) none h = some (.slice (some ⟨b, i, none⟩) hh 16) := slh Try.underlying84 inf22 rfl h2 (by decide)
theorem sll84 {lo : Nat} (h1 : lo < 16) : evSlice Try.prog 84 (.pointer (some ⟨b, i, none⟩)) (some (iv lo)) none none h = some (.slice (some ⟨b, i + lo * 1, none⟩) (16 - lo) (16 - lo)) := sll Try.underlying84 inf22 rfl h1
theorem sln84 : evSlice Try.prog 84 (.pointer (some ⟨b, i, none⟩)) none none none h = some (.slice (some ⟨b, i, none⟩) 16 16) := sln Try.underlying84 inf22 (by decide)
theorem ix84 {cs : List Value} (hn : n < 16) : evIndex Try.prog 84 (.agg ⟨cs⟩) (iv n) = cs[n]? := ix_arr Try.underlying84 Try.underlying22 rfl inf22 rfl hn
theorem inf85 : Try.prog.info? 85 = some Try.t85 := by kernel_rfl
theorem ld85 : evLoad Try.prog 85 (.pointer (some ⟨b, i, none⟩)) h = cellV (h.obj b) i := ld_scalar Try.underlying85 inf85 rfl
theorem st85 (f : Fn) (x y : Array Value) : evStore Try.prog 85 (.pointer (some ⟨b, i, none⟩)) (.func f x y) h = put1 h b i (.func f x y) (h.obj b) := st_one inf85 rfl rfl rfl
theorem al85 : evAlloc Try.prog 85 h = some (.pointer (some ⟨h.nx, 0, none⟩), newRowH h .rw 1 ([.nilFunc])) := al_eq inf85 rfl
theorem inf86 : Try.prog.info? 86 = some Try.t86 := by kernel_rfl
theorem ld86 : evLoad Try.prog 86 (.pointer (some ⟨b, i, none⟩)) h = cellV (h.obj b) i := ld_scalar Try.underlying86 inf86 rfl
theorem st86 (f : Fn) (x y : Array Value) : evStore Try.prog 86 (.pointer (some ⟨b, i, none⟩)) (.func f x y) h = put1 h b i (.func f x y) (h.obj b) := st_one inf86 rfl rfl rfl
theorem al86 : evAlloc Try.prog 86 h = some (.pointer (some ⟨h.nx, 0, none⟩), newRowH h .rw 1 ([.nilFunc])) := al_eq inf86 rfl
theorem inf87 : Try.prog.info? 87 = some Try.t87 := by kernel_rfl
theorem ld87 : evLoad Try.prog 87 (.pointer (some ⟨b, i, none⟩)) h = cellV (h.obj b) i := ld_scalar Try.underlying87 inf87 rfl
theorem st87 (f : Fn) (x y : Array Value) : evStore Try.prog 87 (.pointer (some ⟨b, i, none⟩)) (.func f x y) h = put1 h b i (.func f x y) (h.obj b) := st_one inf87 rfl rfl rfl
theorem al87 : evAlloc Try.prog 87 h = some (.pointer (some ⟨h.nx, 0, none⟩), newRowH h .rw 1 ([.nilFunc])) := al_eq inf87 rfl
theorem inf88 : Try.prog.info? 88 = some Try.t88 := by kernel_rfl
theorem ld88 : evLoad Try.prog 88 (.pointer (some ⟨b, i, none⟩)) h = cutV (h.obj b) i 4 := ld_agg Try.underlying88 inf88 rfl rfl
theorem st88 {cs : List Value} : evStore Try.prog 88 (.pointer (some ⟨b, i, none⟩)) (.agg ⟨cs⟩) h = putV h b i 4 cs (h.obj b) := st_agg inf88 rfl
theorem al88 : evAlloc Try.prog 88 h = some (.pointer (some ⟨h.nx, 0, none⟩), newRowH h .rw 1 (List.replicate 4 (iv 0))) := al_eq inf88 rfl
theorem ia88 (hn : n < 4) : evIndexAddr Try.prog 88 (.pointer (some ⟨b, o, none⟩)) (iv n) = some (.pointer (some ⟨b, o + n * 1, none⟩)) := ia_arr Try.underlying88 inf3 rfl hn
theorem len88 {x : Value} : evLenB Try.prog 88 x = some (iv 4) := len_arr Try.underlying88
theorem sla88 {lo hh : Nat} (h1 : lo ≤ hh) (h2 : hh ≤ 4) (h3 : lo < 4) : evSlice Try.prog 88 (.pointer (some ⟨b, i, none⟩)) (some (iv lo)) (some (iv hh)) none h = some (.slice (some ⟨b, i + lo * 1, none⟩) (hh - lo) (4 - lo)) := sla Try.underlying88 inf3 rfl h1 h2 h3
theorem slh88 {hh : Nat} (h2 : hh ≤ 4) : evSlice Try.prog 88 (.pointer (some ⟨b, i, none⟩)) none (some (iv hh)) none h = some (.slice (some ⟨b, i, none⟩) hh 4) := slh Try.underlying88 inf3 rfl h2 (by decide)
theorem sll88 {lo : Nat} (h1 : lo < 4) : evSlice Try.prog 88 (.pointer (some ⟨b, i, none⟩)) (some (iv lo)) none none h = some (.slice (some ⟨b, i + lo * 1, none⟩) (4 - lo) (4 - lo)) := sll Try.underlying88 inf3 rfl h1
theorem sln88 : evSlice Try.prog 88 (.pointer (some ⟨b, i, none⟩)) none none none h = some (.slice (some ⟨b, i, none⟩) 4 4) := sln Try.underlying88 inf3 (by decide)
theorem ix88 {cs : List Value} (hn : n < 4) : evIndex Try.prog 88 (.agg ⟨cs⟩) (iv n) = cs[n]? := ix_arr Try.underlying88 Try.underlying3 rfl inf3 rfl hn
theorem inf89 : Try.prog.info? 89 = some Try.t89 := by kernel_rfl
theorem ld89 : evLoad Try.prog 89 (.pointer (some ⟨b, i, none⟩)) h = cutV (h.obj b) i 32 := ld_agg Try.underlying89 inf89 rfl rfl
theorem st89 {cs : List Value} : evStore Try.prog 89 (.pointer (some ⟨b, i, none⟩)) (.agg ⟨cs⟩) h = putV h b i 32 cs (h.obj b) := st_agg inf89 rfl
theorem al89 : evAlloc Try.prog 89 h = some (.pointer (some ⟨h.nx, 0, none⟩), newRowH h .rw 1 (List.replicate 32 (iv 0))) := al_eq inf89 rfl
theorem ia89 (hn : n < 8) : evIndexAddr Try.prog 89 (.pointer (some ⟨b, o, none⟩)) (iv n) = some (.pointer (some ⟨b, o + n * 4, none⟩)) := ia_arr Try.underlying89 inf88 rfl hn
theorem len89 {x : Value} : evLenB Try.prog 89 x = some (iv 8) := len_arr Try.underlying89
theorem sla89 {lo hh : Nat} (h1 : lo ≤ hh) (h2 : hh ≤ 8) (h3 : lo < 8) : evSlice Try.prog 89 (.pointer (some ⟨b, i, none⟩)) (some (iv lo)) (some (iv hh)) none h = some (.slice (some ⟨b, i + lo * 4, none⟩) (hh - lo) (8 - lo)) := sla Try.underlying89 inf88 rfl h1 h2 h3
theorem slh89 {hh : Nat} (h2 : hh ≤ 8) : evSlice Try.prog 89 (.pointer (some ⟨b, i, none⟩)) none (some (iv hh)) none h = some (.slice (some ⟨b, i, none⟩) hh 8) := slh Try.underlying89 inf88 rfl h2 (by decide)
theorem sll89 {lo : Nat} (h1 : lo < 8) : evSlice Try.prog 89 (.pointer (some ⟨b, i, none⟩)) (some (iv lo)) none none h = some (.slice (some ⟨b, i + lo * 4, none⟩) (8 - lo) (8 - lo)) := sll Try.underlying89 inf88 rfl h1
theorem sln89 : evSlice Try.prog 89 (.pointer (some ⟨b, i, none⟩)) none none none h = some (.slice (some ⟨b, i, none⟩) 8 8) := sln Try.underlying89 inf88 (by decide)
theorem inf90 : Try.prog.info? 90 = some Try.t90 := by kernel_rfl
theorem ld90 : evLoad Try.prog 90 (.pointer (some ⟨b, i, none⟩)) h = cellV (h.obj b) i := ld_scalar Try.underlying90 inf90 rfl
theorem st90 (f : Fn) (x y : Array Value) : evStore Try.prog 90 (.pointer (some ⟨b, i, none⟩)) (.func f x y) h = put1 h b i (.func f x y) (h.obj b) := st_one inf90 rfl rfl rfl
theorem al90 : evAlloc Try.prog 90 h = some (.pointer (some ⟨h.nx, 0, none⟩), newRowH h .rw 1 ([.nilFunc])) := al_eq inf90 rfl
theorem inf91 : Try.prog.info? 91 = some Try.t91 := by kernel_rfl
theorem ld91 : evLoad Try.prog 91 (.pointer (some ⟨b, i, none⟩)) h = cellV (h.obj b) i := ld_scalar Try.underlying91 inf91 rfl
theorem st91 (f : Fn) (x y : Array Value) : evStore Try.prog 91 (.pointer (some ⟨b, i, none⟩)) (.func f x y) h = put1 h b i (.func f x y) (h.obj b) := st_one inf91 rfl rfl rfl
theorem al91 : evAlloc Try.prog 91 h = some (.pointer (some ⟨h.nx, 0, none⟩), newRowH h .rw 1 ([.nilFunc])) := al_eq inf91 rfl
theorem inf92 : Try.prog.info? 92 = some Try.t92 := by kernel_rfl
theorem ld92 : evLoad Try.prog 92 (.pointer (some ⟨b, i, none⟩)) h = cellV (h.obj b) i := ld_scalar Try.underlying92 inf92 rfl
theorem st92 (f : Fn) (x y : Array Value) : evStore Try.prog 92 (.pointer (some ⟨b, i, none⟩)) (.func f x y) h = put1 h b i (.func f x y) (h.obj b) := st_one inf92 rfl rfl rfl
theorem al92 : evAlloc Try.prog 92 h = some (.pointer (some ⟨h.nx, 0, none⟩), newRowH h .rw 1 ([.nilFunc])) := al_eq inf92 rfl
theorem inf93 : Try.prog.info? 93 = some Try.t93 := by kernel_rfl
theorem ld93 : evLoad Try.prog 93 (.pointer (some ⟨b, i, none⟩)) h = cellV (h.obj b) i := ld_scalar Try.underlying93 inf93 rfl
theorem st93 (x : BitVec 64) : evStore Try.prog 93 (.pointer (some ⟨b, i, none⟩)) (w64 x) h = put1 h b i (w64 x) (h.obj b) := st_one inf93 rfl rfl rfl
theorem al93 : evAlloc Try.prog 93 h = some (.pointer (some ⟨h.nx, 0, none⟩), newRowH h .rw 1 ([w64 0#64])) := al_eq inf93 rfl
theorem inf94 : Try.prog.info? 94 = some Try.t94 := by kernel_rfl
theorem ld94 : evLoad Try.prog 94 (.pointer (some ⟨b, i, none⟩)) h = cellV (h.obj b) i := ld_scalar Try.underlying94 inf94 rfl
theorem st94 (x : BitVec 64) : evStore Try.prog 94 (.pointer (some ⟨b, i, none⟩)) (w64 x) h = put1 h b i (w64 x) (h.obj b) := st_one inf94 rfl rfl rfl
theorem al94 : evAlloc Try.prog 94 h = some (.pointer (some ⟨h.nx, 0, none⟩), newRowH h .rw 1 ([w64 0#64])) := al_eq inf94 rfl
theorem inf95 : Try.prog.info? 95 = some Try.t95 := by kernel_rfl
theorem ld95 : evLoad Try.prog 95 (.pointer (some ⟨b, i, none⟩)) h = cutV (h.obj b) i 64 := ld_agg Try.underlying95 inf95 rfl rfl
theorem st95 {cs : List Value} : evStore Try.prog 95 (.pointer (some ⟨b, i, none⟩)) (.agg ⟨cs⟩) h = putV h b i 64 cs (h.obj b) := st_agg inf95 rfl
theorem al95 : evAlloc Try.prog 95 h = some (.pointer (some ⟨h.nx, 0, none⟩), newRowH h .rw 1 (List.replicate 64 (w32 0#32))) := al_eq inf95 rfl
theorem ia95 (hn : n < 64) : evIndexAddr Try.prog 95 (.pointer (some ⟨b, o, none⟩)) (iv n) = some (.pointer (some ⟨b, o + n * 1, none⟩)) := ia_arr Try.underlying95 inf22 rfl hn
theorem len95 {x : Value} : evLenB Try.prog 95 x = some (iv 64) := len_arr Try.underlying95
theorem sla95 {lo hh : Nat} (h1 : lo ≤ hh) (h2 : hh ≤ 64) (h3 : lo < 64) : evSlice Try.prog 95 (.pointer (some ⟨b, i, none⟩)) (some (iv lo)) (some (iv hh)) none h = some (.slice (some ⟨b, i + lo * 1, none⟩) (hh - lo) (64 - lo)) := sla Try.underlying95 inf22 rfl h1 h2 h3
theorem slh95 {hh : Nat} (h2 : hh ≤ 64) : evSlice Try.prog 95 (.pointer (some ⟨b, i, none⟩)) none (some (iv hh)) none h = some (.slice (some ⟨b, i, none⟩) hh 64) := slh Try.underlying95 inf22 rfl h2 (by decide)
theorem sll95 {lo : Nat} (h1 : lo < 64) : evSlice Try.prog 95 (.pointer (some ⟨b, i, none⟩)) (some (iv lo)) none none h = some (.slice (some ⟨b, i + lo * 1, none⟩) (64 - lo) (64 - lo)) := sll Try.underlying95 inf22 rfl h1
theorem sln95 : evSlice Try.prog 95 (.pointer (some ⟨b, i, none⟩)) none none none h = some (.slice (some ⟨b, i, none⟩) 64 64) := sln Try.underlying95 inf22 (by decide)
theorem ix95 {cs : List Value} (hn : n < 64) : evIndex Try.prog 95 (.agg ⟨cs⟩) (iv n) = cs[n]? := ix_arr Try.underlying95 Try.underlying22 rfl inf22 rfl hn
theorem inf96 : Try.prog.info? 96 = some Try.t96 := by kernel_rfl
theorem ld96 : evLoad Try.prog 96 (.pointer (some ⟨b, i, none⟩)) h = cellV (h.obj b) i := ld_scalar Try.underlying96 inf96 rfl
theorem st96 (f : Fn) (x y : Array Value) : evStore Try.prog 96 (.pointer (some ⟨b, i, none⟩)) (.func f x y) h = put1 h b i (.func f x y) (h.obj b) := st_one inf96 rfl rfl rfl
theorem al96 : evAlloc Try.prog 96 h = some (.pointer (some ⟨h.nx, 0, none⟩), newRowH h .rw 1 ([.nilFunc])) := al_eq inf96 rfl
theorem inf97 : Try.prog.info? 97 = some Try.t97 := by kernel_rfl
theorem ld97 : evLoad Try.prog 97 (.pointer (some ⟨b, i, none⟩)) h = cellV (h.obj b) i := ld_scalar Try.underlying97 inf97 rfl
theorem st97 (f : Fn) (x y : Array Value) : evStore Try.prog 97 (.pointer (some ⟨b, i, none⟩)) (.func f x y) h = put1 h b i (.func f x y) (h.obj b) := st_one inf97 rfl rfl rfl
theorem al97 : evAlloc Try.prog 97 h = some (.pointer (some ⟨h.nx, 0, none⟩), newRowH h .rw 1 ([.nilFunc])) := al_eq inf97 rfl
theorem inf98 : Try.prog.info? 98 = some Try.t98 := by kernel_rfl
theorem ld98 : evLoad Try.prog 98 (.pointer (some ⟨b, i, none⟩)) h = cellV (h.obj b) i := ld_scalar Try.underlying98 inf98 rfl
theorem st98 (a : Option Addr) (m c : Nat) : evStore Try.prog 98 (.pointer (some ⟨b, i, none⟩)) (.slice a m c) h = put1 h b i (.slice a m c) (h.obj b) := st_one inf98 rfl rfl rfl
theorem al98 : evAlloc Try.prog 98 h = some (.pointer (some ⟨h.nx, 0, none⟩), newRowH h .rw 1 ([.slice none 0 0])) := al_eq inf98 rfl
theorem ia98 {len c : Nat} (hn : n < len) : evIndexAddr Try.prog 98 (.slice (some ⟨b, o, none⟩) len c) (iv n) = some (.pointer (some ⟨b, o + n * 1, none⟩)) := ia_sl Try.underlying98 inf22 rfl hn
theorem len98 {a : Option Addr} {c : Nat} : evLenB Try.prog 98 (.slice a n c) = some (iv n) := len_sl Try.underlying98
theorem inf99 : Try.prog.info? 99 = some Try.t99 := by kernel_rfl
theorem ld99 : evLoad Try.prog 99 (.pointer (some ⟨b, i, none⟩)) h = cellV (h.obj b) i := ld_scalar Try.underlying99 inf99 rfl
theorem st99 (f : Fn) (x y : Array Value) : evStore Try.prog 99 (.pointer (some ⟨b, i, none⟩)) (.func f x y) h = put1 h b i (.func f x y) (h.obj b) := st_one inf99 rfl rfl rfl
theorem al99 : evAlloc Try.prog 99 h = some (.pointer (some ⟨h.nx, 0, none⟩), newRowH h .rw 1 ([.nilFunc])) := al_eq inf99 rfl
theorem inf100 : Try.prog.info? 100 = some Try.t100 := by kernel_rfl
theorem ld100 : evLoad Try.prog 100 (.pointer (some ⟨b, i, none⟩)) h = cellV (h.obj b) i := ld_scalar Try.underlying100 inf100 rfl
theorem st100 (a : Option Addr) : evStore Try.prog 100 (.pointer (some ⟨b, i, none⟩)) (.pointer a) h = put1 h b i (.pointer a) (h.obj b) := st_one inf100 rfl rfl rfl
theorem al100 : evAlloc Try.prog 100 h = some (.pointer (some ⟨h.nx, 0, none⟩), newRowH h .rw 1 ([.pointer none])) := al_eq inf100 rfl
theorem inf101 : Try.prog.info? 101 = some Try.t101 := by kernel_rfl
theorem ld101 : evLoad Try.prog 101 (.pointer (some ⟨b, i, none⟩)) h = cellV (h.obj b) i := ld_scalar Try.underlying101 inf101 rfl
theorem st101 (f : Fn) (x y : Array Value) : evStore Try.prog 101 (.pointer (some ⟨b, i, none⟩)) (.func f x y) h = put1 h b i (.func f x y) (h.obj b) := st_one inf101 rfl rfl rfl
theorem al101 : evAlloc Try.prog 101 h = some (.pointer (some ⟨h.nx, 0, none⟩), newRowH h .rw 1 ([.nilFunc])) := al_eq inf101 rfl
theorem inf102 : Try.prog.info? 102 = some Try.t102 := by kernel_rfl
theorem ld102 : evLoad Try.prog 102 (.pointer (some ⟨b, i, none⟩)) h = cutV (h.obj b) i 2 := ld_agg Try.underlying102 inf102 rfl rfl
theorem st102 {cs : List Value} : evStore Try.prog 102 (.pointer (some ⟨b, i, none⟩)) (.agg ⟨cs⟩) h = putV h b i 2 cs (h.obj b) := st_agg inf102 rfl
theorem al102 : evAlloc Try.prog 102 h = some (.pointer (some ⟨h.nx, 0, none⟩), newRowH h .rw 1 (List.replicate 2 (w64 0#64))) := al_eq inf102 rfl
theorem ia102 (hn : n < 2) : evIndexAddr Try.prog 102 (.pointer (some ⟨b, o, none⟩)) (iv n) = some (.pointer (some ⟨b, o + n * 1, none⟩)) := ia_arr Try.underlying102 inf93 rfl hn
theorem len102 {x : Value} : evLenB Try.prog 102 x = some (iv 2) := len_arr Try.underlying102
theorem sla102 {lo hh : Nat} (h1 : lo ≤ hh) (h2 : hh ≤ 2) (h3 : lo < 2) : evSlice Try.prog 102 (.pointer (some ⟨b, i, none⟩)) (some (iv lo)) (some (iv hh)) none h = some (.slice (some ⟨b, i + lo * 1, none⟩) (hh - lo) (2 - lo)) := sla Try.underlying102 inf93 rfl h1 h2 h3
theorem slh102 {hh : Nat} (h2 : hh ≤ 2) : evSlice Try.prog 102 (.pointer (some ⟨b, i, none⟩)) none (some (iv hh)) none h = some (.slice (some ⟨b, i, none⟩) hh 2) := slh Try.underlying102 inf93 rfl h2 (by decide)
theorem sll102 {lo : Nat} (h1 : lo < 2) : evSlice Try.prog 102 (.pointer (some ⟨b, i, none⟩)) (some (iv lo)) none none h = some (.slice (some ⟨b, i + lo * 1, none⟩) (2 - lo) (2 - lo)) := sll Try.underlying102 inf93 rfl h1
theorem sln102 : evSlice Try.prog 102 (.pointer (some ⟨b, i, none⟩)) none none none h = some (.slice (some ⟨b, i, none⟩) 2 2) := sln Try.underlying102 inf93 (by decide)
theorem ix102 {cs : List Value} (hn : n < 2) : evIndex Try.prog 102 (.agg ⟨cs⟩) (iv n) = cs[n]? := ix_arr Try.underlying102 Try.underlying93 rfl inf93 rfl hn
theorem inf103 : Try.prog.info? 103 = some Try.t103 := by kernel_rfl
theorem ld103 : evLoad Try.prog 103 (.pointer (some ⟨b, i, none⟩)) h = cutV (h.obj b) i 3 := ld_agg Try.underlying103 inf103 rfl rfl
theorem st103 {cs : List Value} : evStore Try.prog 103 (.pointer (some ⟨b, i, none⟩)) (.agg ⟨cs⟩) h = putV h b i 3 cs (h.obj b) := st_agg inf103 rfl
theorem al103 : evAlloc Try.prog 103 h = some (.pointer (some ⟨h.nx, 0, none⟩), newRowH h .rw 1 (List.replicate 3 (w64 0#64))) := al_eq inf103 rfl
theorem ia103 (hn : n < 3) : evIndexAddr Try.prog 103 (.pointer (some ⟨b, o, none⟩)) (iv n) = some (.pointer (some ⟨b, o + n * 1, none⟩)) := ia_arr Try.underlying103 inf93 rfl hn
theorem len103 {x : Value} : evLenB Try.prog 103 x = some (iv 3) := len_arr Try.underlying103
theorem sla103 {lo hh : Nat} (h1 : lo ≤ hh) (h2 : hh ≤ 3) (h3 : lo < 3) : evSlice Try.prog 103 (.pointer (some ⟨b, i, none⟩)) (some (iv lo)) (some (iv hh)) none h = some (.slice (some ⟨b, i + lo * 1, none⟩) (hh - lo) (3 - lo)) := sla Try.underlying103 inf93 rfl h1 h2 h3
theorem slh103 {hh : Nat} (h2 : hh ≤ 3) : evSlice Try.prog 103 (.pointer (some ⟨b, i, none⟩)) none (some (iv hh)) none h = some (.slice (some ⟨b, i, none⟩) hh 3) := slh Try.underlying103 inf93 rfl h2 (by decide)
theorem sll103 {lo : Nat} (h1 : lo < 3) : evSlice Try.prog 103 (.pointer (some ⟨b, i, none⟩)) (some (iv lo)) none none h = some (.slice (some ⟨b, i + lo * 1, none⟩) (3 - lo) (3 - lo)) := sll Try.underlying103 inf93 rfl h1
theorem sln103 : evSlice Try.prog 103 (.pointer (some ⟨b, i, none⟩)) none none none h = some (.slice (some ⟨b, i, none⟩) 3 3) := sln Try.underlying103 inf93 (by decide)
theorem ix103 {cs : List Value} (hn : n < 3) : evIndex Try.prog 103 (.agg ⟨cs⟩) (iv n) = cs[n]? := ix_arr Try.underlying103 Try.underlying93 rfl inf93 rfl hn
theorem inf108 : Try.prog.info? 108 = some Try.t108 := by kernel_rfl
theorem ld108 : evLoad Try.prog 108 (.pointer (some ⟨b, i, none⟩)) h = cellV (h.obj b) i := ld_scalar Try.underlying108 inf108 rfl
theorem st108 (f : Fn) (x y : Array Value) : evStore Try.prog 108 (.pointer (some ⟨b, i, none⟩)) (.func f x y) h = put1 h b i (.func f x y) (h.obj b) := st_one inf108 rfl rfl rfl
theorem al108 : evAlloc Try.prog 108 h = some (.pointer (some ⟨h.nx, 0, none⟩), newRowH h .rw 1 ([.nilFunc])) := al_eq inf108 rfl
theorem inf109 : Try.prog.info? 109 = some Try.t109 := by kernel_rfl
theorem ld109 : evLoad Try.prog 109 (.pointer (some ⟨b, i, none⟩)) h = cellV (h.obj b) i := ld_scalar Try.underlying109 inf109 rfl
theorem st109 (f : Fn) (x y : Array Value) : evStore Try.prog 109 (.pointer (some ⟨b, i, none⟩)) (.func f x y) h = put1 h b i (.func f x y) (h.obj b) := st_one inf109 rfl rfl rfl
theorem al109 : evAlloc Try.prog 109 h = some (.pointer (some ⟨h.nx, 0, none⟩), newRowH h .rw 1 ([.nilFunc])) := al_eq inf109 rfl
theorem inf110 : Try.prog.info? 110 = some Try.t110 := by kernel_rfl
theorem ld110 : evLoad Try.prog 110 (.pointer (some ⟨b, i, none⟩)) h = cellV (h.obj b) i := ld_scalar Try.underlying110 inf110 rfl
theorem st110 (f : Fn) (x y : Array Value) : evStore Try.prog 110 (.pointer (some ⟨b, i, none⟩)) (.func f x y) h = put1 h b i (.func f x y) (h.obj b) := st_one inf110 rfl rfl rfl
theorem al110 : evAlloc Try.prog 110 h = some (.pointer (some ⟨h.nx, 0, none⟩), newRowH h .rw 1 ([.nilFunc])) := al_eq inf110 rfl
theorem inf111 : Try.prog.info? 111 = some Try.t111 := by kernel_rfl
theorem ld111 : evLoad Try.prog 111 (.pointer (some ⟨b, i, none⟩)) h = cellV (h.obj b) i := ld_scalar Try.underlying111 inf111 rfl
theorem st111 (a : Option Addr) (m c : Nat) : evStore Try.prog 111 (.pointer (some ⟨b, i, none⟩)) (.slice a m c) h = put1 h b i (.slice a m c) (h.obj b) := st_one inf111 rfl rfl rfl
theorem al111 : evAlloc Try.prog 111 h = some (.pointer (some ⟨h.nx, 0, none⟩), newRowH h .rw 1 ([.slice none 0 0])) := al_eq inf111 rfl
theorem ia111 {len c : Nat} (hn : n < len) : evIndexAddr Try.prog 111 (.slice (some ⟨b, o, none⟩) len c) (iv n) = some (.pointer (some ⟨b, o + n * 1, none⟩)) := ia_sl Try.underlying111 inf3 rfl hn
theorem len111 {a : Option Addr} {c : Nat} : evLenB Try.prog 111 (.slice a n c) = some (iv n) := len_sl Try.underlying111
theorem inf112 : Try.prog.info? 112 = some Try.t112 := by kernel_rfl
theorem ld112 : evLoad Try.prog 112 (.pointer (some ⟨b, i, none⟩)) h = cellV (h.obj b) i := ld_scalar Try.underlying112 inf112 rfl
theorem st112 (f : Fn) (x y : Array Value) : evStore Try.prog 112 (.pointer (some ⟨b, i, none⟩)) (.func f x y) h = put1 h b i (.func f x y) (h.obj b) := st_one inf112 rfl rfl rfl
theorem al112 : evAlloc Try.prog 112 h = some (.pointer (some ⟨h.nx, 0, none⟩), newRowH h .rw 1 ([.nilFunc])) := al_eq inf112 rfl
theorem inf113 : Try.prog.info? 113 = some Try.t113 := by kernel_rfl
theorem ld113 : evLoad Try.prog 113 (.pointer (some ⟨b, i, none⟩)) h = cellV (h.obj b) i := ld_scalar Try.underlying113 inf113 rfl
theorem st113 (f : Fn) (x y : Array Value) : evStore Try.prog 113 (.pointer (some ⟨b, i, none⟩)) (.func f x y) h = put1 h b i (.func f x y) (h.obj b) := st_one inf113 rfl rfl rfl
theorem al113 : evAlloc Try.prog 113 h = some (.pointer (some ⟨h.nx, 0, none⟩), newRowH h .rw 1 ([.nilFunc])) := al_eq inf113 rfl
theorem inf114 : Try.prog.info? 114 = some Try.t114 := by kernel_rfl
theorem ld114 : evLoad Try.prog 114 (.pointer (some ⟨b, i, none⟩)) h = cellV (h.obj b) i := ld_scalar Try.underlying114 inf114 rfl
theorem st114 (a : Option Addr) : evStore Try.prog 114 (.pointer (some ⟨b, i, none⟩)) (.pointer a) h = put1 h b i (.pointer a) (h.obj b) := st_one inf114 rfl rfl rfl
theorem al114 : evAlloc Try.prog 114 h = some (.pointer (some ⟨h.nx, 0, none⟩), newRowH h .rw 1 ([.pointer none])) := al_eq inf114 rfl
theorem inf115 : Try.prog.info? 115 = some Try.t115 := by kernel_rfl
theorem ld115 : evLoad Try.prog 115 (.pointer (some ⟨b, i, none⟩)) h = cellV (h.obj b) i := ld_scalar Try.underlying115 inf115 rfl
theorem st115 (f : Fn) (x y : Array Value) : evStore Try.prog 115 (.pointer (some ⟨b, i, none⟩)) (.func f x y) h = put1 h b i (.func f x y) (h.obj b) := st_one inf115 rfl rfl rfl
theorem al115 : evAlloc Try.prog 115 h = some (.pointer (some ⟨h.nx, 0, none⟩), newRowH h .rw 1 ([.nilFunc])) := al_eq inf115 rfl
theorem inf116 : Try.prog.info? 116 = some Try.t116 := by kernel_rfl
theorem ld116 : evLoad Try.prog 116 (.pointer (some ⟨b, i, none⟩)) h = cellV (h.obj b) i := ld_scalar Try.underlying116 inf116 rfl
theorem st116 (f : Fn) (x y : Array Value) : evStore Try.prog 116 (.pointer (some ⟨b, i, none⟩)) (.func f x y) h = put1 h b i (.func f x y) (h.obj b) := st_one inf116 rfl rfl rfl
theorem al116 : evAlloc Try.prog 116 h = some (.pointer (some ⟨h.nx, 0, none⟩), newRowH h .rw 1 ([.nilFunc])) := al_eq inf116 rfl
theorem inf117 : Try.prog.info? 117 = some Try.t117 := by kernel_rfl
theorem ld117 : evLoad Try.prog 117 (.pointer (some ⟨b, i, none⟩)) h = cellV (h.obj b) i := ld_scalar Try.underlying117 inf117 rfl
theorem st117 (f : Fn) (x y : Array Value) : evStore Try.prog 117 (.pointer (some ⟨b, i, none⟩)) (.func f x y) h = put1 h b i (.func f x y) (h.obj b) := st_one inf117 rfl rfl rfl
theorem al117 : evAlloc Try.prog 117 h = some (.pointer (some ⟨h.nx, 0, none⟩), newRowH h .rw 1 ([.nilFunc])) := al_eq inf117 rfl
theorem inf118 : Try.prog.info? 118 = some Try.t118 := by kernel_rfl
theorem ld118 : evLoad Try.prog 118 (.pointer (some ⟨b, i, none⟩)) h = cellV (h.obj b) i := ld_scalar Try.underlying118 inf118 rfl
theorem st118 (f : Fn) (x y : Array Value) : evStore Try.prog 118 (.pointer (some ⟨b, i, none⟩)) (.func f x y) h = put1 h b i (.func f x y) (h.obj b) := st_one inf118 rfl rfl rfl
theorem al118 : evAlloc Try.prog 118 h = some (.pointer (some ⟨h.nx, 0, none⟩), newRowH h .rw 1 ([.nilFunc])) := al_eq inf118 rfl
theorem inf123 : Try.prog.info? 123 = some Try.t123 := by kernel_rfl
theorem ld123 : evLoad Try.prog 123 (.pointer (some ⟨b, i, none⟩)) h = cellV (h.obj b) i := ld_scalar Try.underlying123 inf123 rfl
theorem st123 (f : Fn) (x y : Array Value) : evStore Try.prog 123 (.pointer (some ⟨b, i, none⟩)) (.func f x y) h = put1 h b i (.func f x y) (h.obj b) := st_one inf123 rfl rfl rfl
theorem al123 : evAlloc Try.prog 123 h = some (.pointer (some ⟨h.nx, 0, none⟩), newRowH h .rw 1 ([.nilFunc])) := al_eq inf123 rfl
theorem inf124 : Try.prog.info? 124 = some Try.t124 := by kernel_rfl
theorem ld124 : evLoad Try.prog 124 (.pointer (some ⟨b, i, none⟩)) h = cellV (h.obj b) i := ld_scalar Try.underlying124 inf124 rfl
theorem st124 (a : Option Addr) : evStore Try.prog 124 (.pointer (some ⟨b, i, none⟩)) (.pointer a) h = put1 h b i (.pointer a) (h.obj b) := st_one inf124 rfl rfl rfl
theorem al124 : evAlloc Try.prog 124 h = some (.pointer (some ⟨h.nx, 0, none⟩), newRowH h .rw 1 ([.pointer none])) := al_eq inf124 rfl
theorem inf125 : Try.prog.info? 125 = some Try.t125 := by kernel_rfl
theorem ld125 : evLoad Try.prog 125 (.pointer (some ⟨b, i, none⟩)) h = cellV (h.obj b) i := ld_scalar Try.underlying125 inf125 rfl
theorem st125 (f : Fn) (x y : Array Value) : evStore Try.prog 125 (.pointer (some ⟨b, i, none⟩)) (.func f x y) h = put1 h b i (.func f x y) (h.obj b) := st_one inf125 rfl rfl rfl
theorem al125 : evAlloc Try.prog 125 h = some (.pointer (some ⟨h.nx, 0, none⟩), newRowH h .rw 1 ([.nilFunc])) := al_eq inf125 rfl
theorem inf126 : Try.prog.info? 126 = some Try.t126 := by kernel_rfl
theorem ld126 : evLoad Try.prog 126 (.pointer (some ⟨b, i, none⟩)) h = cellV (h.obj b) i := ld_scalar Try.underlying126 inf126 rfl
theorem st126 (a : Option Addr) : evStore Try.prog 126 (.pointer (some ⟨b, i, none⟩)) (.pointer a) h = put1 h b i (.pointer a) (h.obj b) := st_one inf126 rfl rfl rfl
theorem al126 : evAlloc Try.prog 126 h = some (.pointer (some ⟨h.nx, 0, none⟩), newRowH h .rw 1 ([.pointer none])) := al_eq inf126 rfl
theorem len126 {x : Value} : evLenB Try.prog 126 x = some (iv 16) := len_ptr Try.underlying126 Try.underlying84
theorem inf127 : Try.prog.info? 127 = some Try.t127 := by kernel_rfl
theorem ld127 : evLoad Try.prog 127 (.pointer (some ⟨b, i, none⟩)) h = cutV (h.obj b) i 24 := ld_agg Try.underlying127 inf127 rfl rfl
theorem st127 {cs : List Value} : evStore Try.prog 127 (.pointer (some ⟨b, i, none⟩)) (.agg ⟨cs⟩) h = putV h b i 24 cs (h.obj b) := st_agg inf127 rfl
theorem al127 : evAlloc Try.prog 127 h = some (.pointer (some ⟨h.nx, 0, none⟩), newRowH h .rw 1 (List.replicate 24 (w8 0#8))) := al_eq inf127 rfl
theorem ia127 (hn : n < 24) : evIndexAddr Try.prog 127 (.pointer (some ⟨b, o, none⟩)) (iv n) = some (.pointer (some ⟨b, o + n * 1, none⟩)) := ia_arr Try.underlying127 inf5 rfl hn
theorem len127 {x : Value} : evLenB Try.prog 127 x = some (iv 24) := len_arr Try.underlying127
theorem sla127 {lo hh : Nat} (h1 : lo ≤ hh) (h2 : hh ≤ 24) (h3 : lo < 24) : evSlice Try.prog 127 (.pointer (some ⟨b, i, none⟩)) (some (iv lo)) (some (iv hh)) none h = some (.slice (some ⟨b, i + lo * 1, none⟩) (hh - lo) (24 - lo)) := sla Try.underlying127 inf5 rfl h1 h2 h3
theorem slh127 {hh : Nat} (h2 : hh ≤ 24) : evSlice Try.prog 127 (.pointer (some ⟨b, i, none⟩)) none (some (iv hh)) none h = some (.slice (some ⟨b, i, none⟩) hh 24) := slh Try.underlying127 inf5 rfl h2 (by decide)
theorem sll127 {lo : Nat} (h1 : lo < 24) : evSlice Try.prog 127 (.pointer (some ⟨b, i, none⟩)) (some (iv lo)) none none h = some (.slice (some ⟨b, i + lo * 1, none⟩) (24 - lo) (24 - lo)) := sll Try.underlying127 inf5 rfl h1
theorem sln127 : evSlice Try.prog 127 (.pointer (some ⟨b, i, none⟩)) none none none h = some (.slice (some ⟨b, i, none⟩) 24 24) := sln Try.underlying127 inf5 (by decide)
theorem ix127 {cs : List Value} (hn : n < 24) : evIndex Try.prog 127 (.agg ⟨cs⟩) (iv n) = cs[n]? := ix_arr Try.underlying127 Try.underlying5 rfl inf5 rfl hn
theorem inf128 : Try.prog.info? 128 = some Try.t128 := by kernel_rfl
theorem ld128 : evLoad Try.prog 128 (.pointer (some ⟨b, i, none⟩)) h = cutV (h.obj b) i 5 := ld_agg Try.underlying128 inf128 rfl rfl
theorem st128 {cs : List Value} : evStore Try.prog 128 (.pointer (some ⟨b, i, none⟩)) (.agg ⟨cs⟩) h = putV h b i 5 cs (h.obj b) := st_agg inf128 rfl
theorem al128 : evAlloc Try.prog 128 h = some (.pointer (some ⟨h.nx, 0, none⟩), newRowH h .rw 1 (List.replicate 5 (w64 0#64))) := al_eq inf128 rfl
theorem ia128 (hn : n < 5) : evIndexAddr Try.prog 128 (.pointer (some ⟨b, o, none⟩)) (iv n) = some (.pointer (some ⟨b, o + n * 1, none⟩)) := ia_arr Try.underlying128 inf93 rfl hn
theorem len128 {x : Value} : evLenB Try.prog 128 x = some (iv 5) := len_arr Try.underlying128
theorem sla128 {lo hh : Nat} (h1 : lo ≤ hh) (h2 : hh ≤ 5) (h3 : lo < 5) : evSlice Try.prog 128 (.pointer (some ⟨b, i, none⟩)) (some (iv lo)) (some (iv hh)) none h = some (.slice (some ⟨b, i + lo * 1, none⟩) (hh - lo) (5 - lo)) := sla Try.underlying128 inf93 rfl h1 h2 h3
theorem slh128 {hh : Nat} (h2 : hh ≤ 5) : evSlice Try.prog 128 (.pointer (some ⟨b, i, none⟩)) none (some (iv hh)) none h = some (.slice (some ⟨b, i, none⟩) hh 5) := slh Try.underlying128 inf93 rfl h2 (by decide)
theorem sll128 {lo : Nat} (h1 : lo < 5) : evSlice Try.prog 128 (.pointer (some ⟨b, i, none⟩)) (some (iv lo)) none none h = some (.slice (some ⟨b, i + lo * 1, none⟩) (5 - lo) (5 - lo)) := sll Try.underlying128 inf93 rfl h1
theorem sln128 : evSlice Try.prog 128 (.pointer (some ⟨b, i, none⟩)) none none none h = some (.slice (some ⟨b, i, none⟩) 5 5) := sln Try.underlying128 inf93 (by decide)
theorem ix128 {cs : List Value} (hn : n < 5) : evIndex Try.prog 128 (.agg ⟨cs⟩) (iv n) = cs[n]? := ix_arr Try.underlying128 Try.underlying93 rfl inf93 rfl hn
theorem inf130 : Try.prog.info? 130 = some Try.t130 := by kernel_rfl
theorem ld130 : evLoad Try.prog 130 (.pointer (some ⟨b, i, none⟩)) h = cellV (h.obj b) i := ld_scalar Try.underlying130 inf130 rfl
theorem st130 (f : Fn) (x y : Array Value) : evStore Try.prog 130 (.pointer (some ⟨b, i, none⟩)) (.func f x y) h = put1 h b i (.func f x y) (h.obj b) := st_one inf130 rfl rfl rfl
theorem al130 : evAlloc Try.prog 130 h = some (.pointer (some ⟨h.nx, 0, none⟩), newRowH h .rw 1 ([.nilFunc])) := al_eq inf130 rfl
theorem inf131 : Try.prog.info? 131 = some Try.t131 := by kernel_rfl
theorem ld131 : evLoad Try.prog 131 (.pointer (some ⟨b, i, none⟩)) h = cellV (h.obj b) i := ld_scalar Try.underlying131 inf131 rfl
theorem st131 (f : Fn) (x y : Array Value) : evStore Try.prog 131 (.pointer (some ⟨b, i, none⟩)) (.func f x y) h = put1 h b i (.func f x y) (h.obj b) := st_one inf131 rfl rfl rfl
theorem al131 : evAlloc Try.prog 131 h = some (.pointer (some ⟨h.nx, 0, none⟩), newRowH h .rw 1 ([.nilFunc])) := al_eq inf131 rfl
theorem inf132 : Try.prog.info? 132 = some Try.t132 := by kernel_rfl
theorem ld132 : evLoad Try.prog 132 (.pointer (some ⟨b, i, none⟩)) h = cellV (h.obj b) i := ld_scalar Try.underlying132 inf132 rfl
theorem st132 (f : Fn) (x y : Array Value) : evStore Try.prog 132 (.pointer (some ⟨b, i, none⟩)) (.func f x y) h = put1 h b i (.func f x y) (h.obj b) := st_one inf132 rfl rfl rfl
theorem al132 : evAlloc Try.prog 132 h = some (.pointer (some ⟨h.nx, 0, none⟩), newRowH h .rw 1 ([.nilFunc])) := al_eq inf132 rfl
theorem inf133 : Try.prog.info? 133 = some Try.t133 := by kernel_rfl
theorem ld133 : evLoad Try.prog 133 (.pointer (some ⟨b, i, none⟩)) h = cellV (h.obj b) i := ld_scalar Try.underlying133 inf133 rfl
theorem st133 (a : Option Addr) : evStore Try.prog 133 (.pointer (some ⟨b, i, none⟩)) (.pointer a) h = put1 h b i (.pointer a) (h.obj b) := st_one inf133 rfl rfl rfl
theorem al133 : evAlloc Try.prog 133 h = some (.pointer (some ⟨h.nx, 0, none⟩), newRowH h .rw 1 ([.pointer none])) := al_eq inf133 rfl
theorem inf134 : Try.prog.info? 134 = some Try.t134 := by kernel_rfl
theorem ld134 : evLoad Try.prog 134 (.pointer (some ⟨b, i, none⟩)) h = cellV (h.obj b) i := ld_scalar Try.underlying134 inf134 rfl
theorem st134 (a : Option Addr) (m c : Nat) : evStore Try.prog 134 (.pointer (some ⟨b, i, none⟩)) (.slice a m c) h = put1 h b i (.slice a m c) (h.obj b) := st_one inf134 rfl rfl rfl
theorem al134 : evAlloc Try.prog 134 h = some (.pointer (some ⟨h.nx, 0, none⟩), newRowH h .rw 1 ([.slice none 0 0])) := al_eq inf134 rfl
theorem ia134 {len c : Nat} (hn : n < len) : evIndexAddr Try.prog 134 (.slice (some ⟨b, o, none⟩) len c) (iv n) = some (.pointer (some ⟨b, o + n * 1, none⟩)) := ia_sl Try.underlying134 inf38 rfl hn
theorem len134 {a : Option Addr} {c : Nat} : evLenB Try.prog 134 (.slice a n c) = some (iv n) := len_sl Try.underlying134
theorem inf135 : Try.prog.info? 135 = some Try.t135 := by kernel_rfl
theorem ld135 : evLoad Try.prog 135 (.pointer (some ⟨b, i, none⟩)) h = cutV (h.obj b) i 8 := ld_agg Try.underlying135 inf135 rfl rfl
theorem st135 {cs : List Value} : evStore Try.prog 135 (.pointer (some ⟨b, i, none⟩)) (.agg ⟨cs⟩) h = putV h b i 8 cs (h.obj b) := st_agg inf135 rfl
theorem al135 : evAlloc Try.prog 135 h = some (.pointer (some ⟨h.nx, 0, none⟩), newRowH h .rw 1 (List.replicate 8 (w8 0#8))) := al_eq inf135 rfl
theorem ia135 (hn : n < 8) : evIndexAddr Try.prog 135 (.pointer (some ⟨b, o, none⟩)) (iv n) = some (.pointer (some ⟨b, o + n * 1, none⟩)) := ia_arr Try.underlying135 inf5 rfl hn
theorem len135 {x : Value} : evLenB Try.prog 135 x = some (iv 8) := len_arr Try.underlying135
theorem sla135 {lo hh : Nat} (h1 : lo ≤ hh) (h2 : hh ≤ 8) (h3 : lo < 8) : evSlice Try.prog 135 (.pointer (some ⟨b, i, none⟩)) (some (iv lo)) (some (iv hh)) none h = some (.slice (some ⟨b, i + lo * 1, none⟩) (hh - lo) (8 - lo)) := sla Try.underlying135 inf5 rfl h1 h2 h3
theorem slh135 {hh : Nat} (h2 : hh ≤ 8) : evSlice Try.prog 135 (.pointer (some ⟨b, i, none⟩)) none (some (iv hh)) none h = some (.slice (some ⟨b, i, none⟩) hh 8) := slh Try.underlying135 inf5 rfl h2 (by decide)
theorem sll135 {lo : Nat} (h1 : lo < 8) : evSlice Try.prog 135 (.pointer (some ⟨b, i, none⟩)) (some (iv lo)) none none h = some (.slice (some ⟨b, i + lo * 1, none⟩) (8 - lo) (8 - lo)) := sll Try.underlying135 inf5 rfl h1
theorem sln135 : evSlice Try.prog 135 (.pointer (some ⟨b, i, none⟩)) none none none h = some (.slice (some ⟨b, i, none⟩) 8 8) := sln Try.underlying135 inf5 (by decide)
theorem ix135 {cs : List Value} (hn : n < 8) : evIndex Try.prog 135 (.agg ⟨cs⟩) (iv n) = cs[n]? := ix_arr Try.underlying135 Try.underlying5 rfl inf5 rfl hn
theorem inf136 : Try.prog.info? 136 = some Try.t136 := by kernel_rfl
theorem ld136 : evLoad Try.prog 136 (.pointer (some ⟨b, i, none⟩)) h = cellV (h.obj b) i := ld_scalar Try.underlying136 inf136 rfl
theorem st136 (f : Fn) (x y : Array Value) : evStore Try.prog 136 (.pointer (some ⟨b, i, none⟩)) (.func f x y) h = put1 h b i (.func f x y) (h.obj b) := st_one inf136 rfl rfl rfl
theorem al136 : evAlloc Try.prog 136 h = some (.pointer (some ⟨h.nx, 0, none⟩), newRowH h .rw 1 ([.nilFunc])) := al_eq inf136 rfl
theorem inf142 : Try.prog.info? 142 = some Try.t142 := by kernel_rfl
theorem ld142 : evLoad Try.prog 142 (.pointer (some ⟨b, i, none⟩)) h = cellV (h.obj b) i := ld_scalar Try.underlying142 inf142 rfl
theorem st142 (f : Fn) (x y : Array Value) : evStore Try.prog 142 (.pointer (some ⟨b, i, none⟩)) (.func f x y) h = put1 h b i (.func f x y) (h.obj b) := st_one inf142 rfl rfl rfl
theorem al142 : evAlloc Try.prog 142 h = some (.pointer (some ⟨h.nx, 0, none⟩), newRowH h .rw 1 ([.nilFunc])) := al_eq inf142 rfl
theorem inf143 : Try.prog.info? 143 = some Try.t143 := by kernel_rfl
theorem ld143 : evLoad Try.prog 143 (.pointer (some ⟨b, i, none⟩)) h = cellV (h.obj b) i := ld_scalar Try.underlying143 inf143 rfl
theorem st143 (x : BitVec 8) : evStore Try.prog 143 (.pointer (some ⟨b, i, none⟩)) (w8 x) h = put1 h b i (w8 x) (h.obj b) := st_one inf143 rfl rfl rfl
theorem al143 : evAlloc Try.prog 143 h = some (.pointer (some ⟨h.nx, 0, none⟩), newRowH h .rw 1 ([w8 0#8])) := al_eq inf143 rfl
theorem inf144 : Try.prog.info? 144 = some Try.t144 := by kernel_rfl
theorem ld144 : evLoad Try.prog 144 (.pointer (some ⟨b, i, none⟩)) h = cellV (h.obj b) i := ld_scalar Try.underlying144 inf144 rfl
theorem st144 (x : BitVec 8) : evStore Try.prog 144 (.pointer (some ⟨b, i, none⟩)) (w8 x) h = put1 h b i (w8 x) (h.obj b) := st_one inf144 rfl rfl rfl
theorem al144 : evAlloc Try.prog 144 h = some (.pointer (some ⟨h.nx, 0, none⟩), newRowH h .rw 1 ([w8 0#8])) := al_eq inf144 rfl
theorem inf145 : Try.prog.info? 145 = some Try.t145 := by kernel_rfl
theorem ld145 : evLoad Try.prog 145 (.pointer (some ⟨b, i, none⟩)) h = cellV (h.obj b) i := ld_scalar Try.underlying145 inf145 rfl
theorem st145 (f : Fn) (x y : Array Value) : evStore Try.prog 145 (.pointer (some ⟨b, i, none⟩)) (.func f x y) h = put1 h b i (.func f x y) (h.obj b) := st_one inf145 rfl rfl rfl
theorem al145 : evAlloc Try.prog 145 h = some (.pointer (some ⟨h.nx, 0, none⟩), newRowH h .rw 1 ([.nilFunc])) := al_eq inf145 rfl
theorem inf146 : Try.prog.info? 146 = some Try.t146 := by kernel_rfl
theorem ld146 : evLoad Try.prog 146 (.pointer (some ⟨b, i, none⟩)) h = cellV (h.obj b) i := ld_scalar Try.underlying146 inf146 rfl
theorem st146 (a : Option Addr) : evStore Try.prog 146 (.pointer (some ⟨b, i, none⟩)) (.pointer a) h = put1 h b i (.pointer a) (h.obj b) := st_one inf146 rfl rfl rfl
theorem al146 : evAlloc Try.prog 146 h = some (.pointer (some ⟨h.nx, 0, none⟩), newRowH h .rw 1 ([.pointer none])) := al_eq inf146 rfl
theorem inf147 : Try.prog.info? 147 = some Try.t147 := by kernel_rfl
theorem ld147 : evLoad Try.prog 147 (.pointer (some ⟨b, i, none⟩)) h = cellV (h.obj b) i := ld_scalar Try.underlying147 inf147 rfl
theorem st147 (x : Int) : evStore Try.prog 147 (.pointer (some ⟨b, i, none⟩)) (.int .i32 x) h = put1 h b i (.int .i32 x) (h.obj b) := st_one inf147 rfl rfl rfl
theorem al147 : evAlloc Try.prog 147 h = some (.pointer (some ⟨h.nx, 0, none⟩), newRowH h .rw 1 ([.int .i32 0])) := al_eq inf147 rfl
theorem inf148 : Try.prog.info? 148 = some Try.t148 := by kernel_rfl
theorem ld148 : evLoad Try.prog 148 (.pointer (some ⟨b, i, none⟩)) h = cellV (h.obj b) i := ld_scalar Try.underlying148 inf148 rfl
theorem st148 (x : Int) : evStore Try.prog 148 (.pointer (some ⟨b, i, none⟩)) (.int .i32 x) h = put1 h b i (.int .i32 x) (h.obj b) := st_one inf148 rfl rfl rfl
theorem al148 : evAlloc Try.prog 148 h = some (.pointer (some ⟨h.nx, 0, none⟩), newRowH h .rw 1 ([.int .i32 0])) := al_eq inf148 rfl
theorem inf151 : Try.prog.info? 151 = some Try.t151 := by kernel_rfl
theorem ld151 : evLoad Try.prog 151 (.pointer (some ⟨b, i, none⟩)) h = cellV (h.obj b) i := ld_scalar Try.underlying151 inf151 rfl
end
end Go.Proofs.Ytfehhihllenjiaa
