/- The library's functions by their contracts. -/
import Derived.Test.YtmdocdnidilaiaaGreatRows
import Derived.KernelRfl
import Derived.Test.YtmdocdnidilaiaaGreatVDel
namespace Go.Proofs.YtmdocdnidilaiaaGreat.PutJob
open Go Go.Proofs.YtmdocdnidilaiaaGreat.V Go.Shelf
def del50_ren:Go.Shelf.Ren:=⟨fun | 45=>50 | n=>n,fun | 22=>44 | 23=>35 | n=>n,fun n=>n⟩
theorem del50_ok {args:List SV} {objs:List (V.Id × VObj)} {rs:List Ret} (h:DelX 6 args objs rs):CallOK Tryz.prog 50 args objs [] [] rs:=
  del_ok2 (ρ:=del50_ren) (bytes:=64) (zero:=[(.val (.int .i64 0)),(.val (.int .i64 0)),(.val (.int .i64 0)),(.val (.int .i64 0)),(.val (.int .i64 0)),(.nl 3)]) (by kernel_rfl) ⟨Tryz.f50.name,by decide,Tryz.func50.trans (congrArg some (by kernel_rfl))⟩ (elemZOK_ok (by kernel_rfl)) ⟨Tryz.f50,_,Tryz.func50,rfl,by decide⟩ h
end Go.Proofs.YtmdocdnidilaiaaGreat.PutJob
