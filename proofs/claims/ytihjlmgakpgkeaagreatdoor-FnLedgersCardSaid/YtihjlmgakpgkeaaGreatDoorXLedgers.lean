/- The library's functions by their contracts. -/
import Derived.Test.YtihjlmgakpgkeaaGreatDoorVExt
import Derived.Test.YtihjlmgakpgkeaaGreatDoorShelf
import Derived.Shelf.Strings.SlTrimAscii
namespace Go.Proofs.YtihjlmgakpgkeaaGreatDoor.Ledgers
open Go Go.Proofs.YtihjlmgakpgkeaaGreatDoor.V Go.Shelf
theorem trim_ok (s c:ByteArray) (h1:s.size≤9223372036854775807) (h2:c.size < 4294967281) (h3:asciiB c=true):CallOK Tryz.prog 87 [.one (.val (.string s)),.one (.val (.string c))] [] [] [] [.one (.val (.string (trimB s c)))]:=
  flat_ok (args:=[.string s,.string c]) (rets:=[.string (trimB s c)]) ⟨Tryz.f87,_,Tryz.func87,rfl,by decide⟩ (by simp[flat]) fun w=>
    (Any.strings_Trim_laid lays160 (by kernel_rfl) s c w h1 h2 (ascii_of_all h3)).mono fun e w' ⟨h,b⟩=>⟨⟨_,h,rfl⟩,b⟩
end Go.Proofs.YtihjlmgakpgkeaaGreatDoor.Ledgers
