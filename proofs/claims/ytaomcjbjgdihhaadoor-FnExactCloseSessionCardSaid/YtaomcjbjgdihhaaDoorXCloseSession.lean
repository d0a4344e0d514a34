/- The library's functions by their contracts. -/
import Derived.Test.YtaomcjbjgdihhaaDoorVExt
import Derived.Test.YtaomcjbjgdihhaaDoorShelf
import Derived.Shelf.Strings.SlTrimAscii
import Derived.Shelf.Small.Strs
import Derived.Test.YtaomcjbjgdihhaaDoorVDel
namespace Go.Proofs.YtaomcjbjgdihhaaDoor.CloseSession
open Go Go.Proofs.YtaomcjbjgdihhaaDoor.V Go.Shelf
theorem idx_ok (s : ByteArray) (c : Int) : CallOK Tryd.prog 46 [.one (.val (.string s)), .one (.val (.int .u8 c))] [] [] [] [.one (.val (.int .i64 (idxB s c)))] :=
  flat_ok (args := [.string s, .int .u8 c]) (rets := [.int .i64 (idxB s c)]) ⟨Tryd.f46, _, Tryd.func46, rfl, by decide⟩ (by simp [flat]) fun w =>
    (Any.strings_IndexByte lays137 s c w).mono fun e w' ⟨h, b⟩ => ⟨⟨_, h, rfl⟩, by rw [b]; exact Go.RowKit.Below.refl _ _⟩
theorem trim_ok (s c : ByteArray) (h1 : s.size ≤ 9223372036854775807) (h2 : c.size < 4294967281) (h3 : asciiB c = true) : CallOK Tryd.prog 55 [.one (.val (.string s)), .one (.val (.string c))] [] [] [] [.one (.val (.string (trimB s c)))] :=
  flat_ok (args := [.string s, .string c]) (rets := [.string (trimB s c)]) ⟨Tryd.f55, _, Tryd.func55, rfl, by decide⟩ (by simp [flat]) fun w =>
    (Any.strings_Trim_laid lays160 (by kernel_rfl) s c w h1 h2 (ascii_of_all h3)).mono fun e w' ⟨h, b⟩ => ⟨⟨_, h, rfl⟩, b⟩
def del19_ren : Go.Shelf.Ren := ⟨fun | 45 => 19 | n => n, fun | 22 => 28 | 23 => 49 | n => n, fun n => n⟩
theorem del19_ok {args : List SV} {objs : List (V.Id × VObj)} {rs : List Ret} (h : DelX 4 args objs rs) : CallOK Tryd.prog 19 args objs [] [] rs :=
  del_ok2 (ρ := del19_ren) (bytes := 48) (zero := [(.val (.string (⟨#[]⟩ : ByteArray))), (.val (.int .i64 0)), (.val (.string (⟨#[]⟩ : ByteArray))), (.val (.int .i64 0))]) (by kernel_rfl) ⟨Tryd.f19.name, by decide, Tryd.func19.trans (congrArg some (by kernel_rfl))⟩ (elemZOK_ok (by kernel_rfl)) ⟨Tryd.f19, _, Tryd.func19, rfl, by decide⟩ h
end Go.Proofs.YtaomcjbjgdihhaaDoor.CloseSession
