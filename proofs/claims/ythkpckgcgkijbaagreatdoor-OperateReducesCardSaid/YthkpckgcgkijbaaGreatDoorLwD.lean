import Derived.Test.YthkpckgcgkijbaaGreatDoorNumS2
import Derived.Test.YthkpckgcgkijbaaGreatDoorHpCv2
set_option linter.unusedVariables false
set_option linter.unusedSimpArgs false
namespace Go.Proofs.YthkpckgcgkijbaaGreatDoor
open Go.RowKit Go.Proofs.Lexi
theorem php_hand {base n:Nat} {w:World} {h:Nat} {M:LH} (hP:PHp base n w h M) (hn:n≤1000):HandAt 127 (.pointer (some ⟨h,0,none⟩)) (handH M) w:=fun W hW k p q s r ev hr hev=>by
 obtain⟨bo,bt,H,h1,h2,h3,h4⟩:=(hP.below hW).ex
 rw[←h2]
 exact pHand_c W h bo bt H h1 (fun x hx=>Nat.le_trans (h3 x hx) hn) k p q s r hr ev hev
end Go.Proofs.YthkpckgcgkijbaaGreatDoor
