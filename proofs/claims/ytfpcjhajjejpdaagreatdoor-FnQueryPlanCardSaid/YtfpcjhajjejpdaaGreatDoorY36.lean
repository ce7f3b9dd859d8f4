import Derived.Test.YtfpcjhajjejpdaaGreatDoorY32
import Derived.Test.YtfpcjhajjejpdaaGreatDoorY35
namespace Go.Proofs.YtfpcjhajjejpdaaGreatDoor
open Go.RowKit
set_option linter.unusedVariables false
theorem zMd {P:Nat→Prop} {X Y:World} {bs:Nat} (k:Own.Chg P X Y) (hP:∀g,P g→g<bs) {c0 c1 c2 c3 c4 c5:Value} {d:QueryD} (h:QryO X bs c0 c1 c2 c3 c4 c5 d):QryO Y bs c0 c1 c2 c3 c4 c5 d :=
 ⟨h.tb,zGR k hP h.cols,Own.own_chg h.wher k (Own.inP_of h.wher fun g h1 _ hp=>by have:=hP g hp;omega),h.ord,h.desc,h.lim⟩
theorem zJa {m m':Nat} {d:TableD} (h:zHC m d) (hm:m≤m'):zHC m' d:=⟨h.1,h.2.1,⟨Nat.le_trans h.2.2.1.1 hm,h.2.2.1.2⟩,⟨Nat.le_trans h.2.2.2.1 hm,h.2.2.2.2⟩⟩
end Go.Proofs.YtfpcjhajjejpdaaGreatDoor
