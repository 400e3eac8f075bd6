/- What the rows of this seat list gives what the library's functions want; a world in which it holds. Under: the listed variables of the library hold what the program's text lays. -/
import Derived.Test.YtobpcllkonomlaaGreatDoorRows
import Derived.Test.YtobpcllkonomlaaGreatDoorAALo
import Derived.ProofKit
import Derived.OpenShut
import Derived.Deep.DeepHandedRow
import Derived.Shelf.Vars
import Derived.Stop.LaidErr
import Derived.LaidLaws
namespace Go.Proofs.YtobpcllkonomlaaGreatDoor
namespace AM
open Go.ChangeShapes Go.WideShapes Go.ChangeAt Go.RowKit
set_option linter.unusedVariables false
theorem own:ownKnob Tryz.prog.godebug=none:=by kernel_rfl
theorem JJ:laidOutB Tryz.prog=true:=by kernel_rfl
theorem Ns:"*"++"errors.errorString"="*errors.errorString":=by decide
theorem LI (u:TypeId) (h:Tryz.prog.typeName? 3 u=some "*errors.errorString"):u=309 :=
 typeName_ptr_named (nm:="errors.errorString") (by rw[Ns];kernel_rfl) (by kernel_rfl) (by decide) u (by rw[Ns];exact h)
abbrev BQ:List (String×DataW Unit):=Rows.fnInstRow.laid
theorem Nt{W:World}{n:String}{text:List UInt8}{g:Nat}(h:laidMet Tryz.prog [(n, .iface "*errors.errorString" (.ptr (.agg [.lit (.string text)])))] W) (hg:Tryz.prog.globalNamed n=some g) (ht:(Tryz.prog.globals[g]?).map (·.type)=some 216) :
  ∃ev,W.cell? ⟨g,0,none⟩=some ev∧(ev = .nilIface∨∃te pe,ev = .iface te pe):=by
 obtain⟨a,s,hv,_⟩:=laid_sentinel h hg ht Tryz.underlying216 LI Tryz.underlying309 Tryz.underlying311 rfl rfl Tryz.underlying9 (by kernel_rfl) (by kernel_rfl)
 have:=World.var?_cell hg hv 0
 exact⟨_,this, .inr ⟨_,_,rfl⟩⟩
theorem facts{W:World}(h:laidMet Tryz.prog BQ W) (hs:W.ShapedOpen Tryz.prog):ap W where
 mx:=Go.Proofs.cell_of_shapedOpen_int hs (g:=0) (t:=3) (zero:=#[.int .i64 0]) (by decide) (by kernel_rfl) rfl (by kernel_rfl) (by kernel_rfl) Tryz.underlying3
 tab:=Lib.tabIs_of_head (g:=1) (t:=291) (e:=228) (n:=20) (by kernel_rfl) (by kernel_rfl) (by kernel_rfl) (by kernel_rfl) (by kernel_rfl) (by kernel_rfl)
  (pJ h (.tail _ (.tail _ (.head _))))
 es:=Nt (pJ h (.tail _ (.tail _ (.tail _ (.tail _ (.head _)))))) (by kernel_rfl) (by kernel_rfl)
 er:=Nt (pJ h (.tail _ (.tail _ (.tail _ (.head _))))) (by kernel_rfl) (by kernel_rfl)
noncomputable def ij (os:Os):World :=
 let w0:=World.holding Tryz.prog os ⟨#[.cells #[.string ⟨#[118,97,108,117,101,32,111,117,116,32,111,102,32,114,97,110,103,101]⟩] 311, .cells #[.string ⟨#[105,110,118,97,108,105,100,32,115,121,110,116,97,120]⟩] 311], #[],[]⟩
 { w0 with heap:=((((w0.heap.modify 4 fun
   | .cells _ t frozen => .cells #[.int .u8 0, .int .u8 1, .int .u8 28, .int .u8 2, .int .u8 29, .int .u8 14, .int .u8 24, .int .u8 3, .int .u8 30, .int .u8 22, .int .u8 20, .int .u8 15, .int .u8 25, .int .u8 17, .int .u8 4, .int .u8 8, .int .u8 31, .int .u8 27, .int .u8 13, .int .u8 23, .int .u8 21, .int .u8 19, .int .u8 16, .int .u8 7, .int .u8 26, .int .u8 12, .int .u8 18, .int .u8 6, .int .u8 11, .int .u8 5, .int .u8 10, .int .u8 9] t frozen
   |o=>o).modify 5 fun
   | .cells _ t frozen => .cells #[.int .u8 0, .int .u8 1, .int .u8 56, .int .u8 2, .int .u8 57, .int .u8 49, .int .u8 28, .int .u8 3, .int .u8 61, .int .u8 58, .int .u8 42, .int .u8 50, .int .u8 38, .int .u8 29, .int .u8 17, .int .u8 4, .int .u8 62, .int .u8 47, .int .u8 59, .int .u8 36, .int .u8 45, .int .u8 43, .int .u8 51, .int .u8 22, .int .u8 53, .int .u8 39, .int .u8 33, .int .u8 30, .int .u8 24, .int .u8 18, .int .u8 12, .int .u8 5, .int .u8 63, .int .u8 55, .int .u8 48, .int .u8 27, .int .u8 60, .int .u8 41, .int .u8 37, .int .u8 16, .int .u8 46, .int .u8 35, .int .u8 44, .int .u8 21, .int .u8 52, .int .u8 32, .int .u8 23, .int .u8 11, .int .u8 54, .int .u8 26, .int .u8 40, .int .u8 15, .int .u8 34, .int .u8 20, .int .u8 31, .int .u8 10, .int .u8 25, .int .u8 14, .int .u8 19, .int .u8 9, .int .u8 13, .int .u8 8, .int .u8 7, .int .u8 6] t frozen
   |o=>o).modify 1 fun
   | .cells _ t frozen => .cells #[.int .u64 1, .int .u64 10, .int .u64 100, .int .u64 1000, .int .u64 10000, .int .u64 100000, .int .u64 1000000, .int .u64 10000000, .int .u64 100000000, .int .u64 1000000000, .int .u64 10000000000, .int .u64 100000000000, .int .u64 1000000000000, .int .u64 10000000000000, .int .u64 100000000000000, .int .u64 1000000000000000, .int .u64 10000000000000000, .int .u64 100000000000000000, .int .u64 1000000000000000000, .int .u64 10000000000000000000] t frozen
   |o=>o).modify 3 fun
   | .cells _ t frozen => .cells #[.iface 309 (.pointer (some ⟨11,0,none⟩))] t frozen
   |o=>o).modify 2 fun
   | .cells _ t frozen => .cells #[.iface 309 (.pointer (some ⟨12,0,none⟩))] t frozen
   |o=>o }
theorem Ac (os:Os):(ij os).os=os:=rfl
end AM
end Go.Proofs.YtobpcllkonomlaaGreatDoor
