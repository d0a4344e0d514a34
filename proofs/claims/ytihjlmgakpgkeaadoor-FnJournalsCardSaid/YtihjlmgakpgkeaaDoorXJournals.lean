/- The library's functions by their contracts. -/
import Derived.Test.YtihjlmgakpgkeaaDoorVExt
import Derived.Test.YtihjlmgakpgkeaaDoorShelf
import Derived.Shelf.Strings.SlTrimAscii
namespace Go.Proofs.YtihjlmgakpgkeaaDoor.Journals
open Go Go.Proofs.YtihjlmgakpgkeaaDoor.V Go.Shelf
theorem trim_ok (s c:ByteArray) (h1:s.size≤9223372036854775807) (h2:c.size < 4294967281) (h3:asciiB c=true):CallOK Tryd.prog 141 [.one (.val (.string s)),.one (.val (.string c))] [] [] [] [.one (.val (.string (trimB s c)))]:=
  flat_ok (args:=[.string s,.string c]) (rets:=[.string (trimB s c)]) ⟨Tryd.f141,_,Tryd.func141,rfl,by decide⟩ (by simp[flat]) fun w=>
    (Any.strings_Trim_laid lays160 (by kernel_rfl) s c w h1 h2 (ascii_of_all h3)).mono fun e w' ⟨h,b⟩=>⟨⟨_,h,rfl⟩,b⟩
end Go.Proofs.YtihjlmgakpgkeaaDoor.Journals
