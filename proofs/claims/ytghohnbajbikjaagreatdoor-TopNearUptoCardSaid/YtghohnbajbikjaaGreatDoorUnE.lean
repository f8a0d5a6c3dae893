/- The one bundle that the statement itself loads, and what is found in it. No program. -/
import Derived.Test.YtghohnbajbikjaaGreatDoorUnP
namespace Go.Proofs.YtghohnbajbikjaaGreatDoor
namespace Tn
def hiB : Bd := ⟨[101, 110], [⟨[104, 105], [104, 101, 108, 108, 111]⟩]⟩
theorem read_en : readTag PS1 PR1 [101, 110] = some ⟨[101, 110], [], [], []⟩ := by
  have h : Lib.split (([101, 110] : List UInt8).map lowC) [45] = [[101, 110]] := by decide +kernel
  unfold readTag
  rw [h]
  dsimp only
  have a1 : cutS PS1 [] = ([], []) := by decide +kernel
  rw [a1]
  dsimp only
  have a2 : cutR PR1 [] = ([], []) := by decide +kernel
  rw [a2]
  dsimp only
  rw [if_pos (by decide +kernel)]
theorem read_de : readTag PS1 PR1 [100, 101] = some ⟨[100, 101], [], [], []⟩ := by
  have h : Lib.split (([100, 101] : List UInt8).map lowC) [45] = [[100, 101]] := by decide +kernel
  unfold readTag
  rw [h]
  dsimp only
  have a1 : cutS PS1 [] = ([], []) := by decide +kernel
  rw [a1]
  dsimp only
  have a2 : cutR PR1 [] = ([], []) := by decide +kernel
  rw [a2]
  dsimp only
  rw [if_pos (by decide +kernel)]
theorem readT_de : readT [100, 101] = ⟨[100, 101], [], [], []⟩ := by unfold readT; rw [read_de]; rfl
theorem readT_en : readT [101, 110] = ⟨[101, 110], [], [], []⟩ := by unfold readT; rw [read_en]; rfl
theorem tag_en : tagB [101, 110] = true := by
  unfold tagB readOk
  rw [readT_en, read_en]
  decide +kernel
theorem tag_de : tagB [100, 101] = true := by
  unfold tagB readOk
  rw [readT_de, read_de]
  decide +kernel
theorem hi_ok : bdN hiB = 0 := by
  unfold bdN
  rw [show tagB hiB.tag = true from tag_en, if_pos rfl]
  decide +kernel
theorem hi_all : bsN [] [hiB] = 0 := by
  unfold bsN
  rw [if_pos hi_ok]
  rfl
theorem hi_in : inR [hiB] [100, 101] [104, 105] = (0, 0, [104, 101, 108, 108, 111]) := by
  unfold inR askL
  rw [hi_all, tag_de, readT_de, if_pos rfl, if_pos rfl, if_pos (by decide +kernel)]
  have h : findL [104, 105] [hiB] ((⟨[100, 101], [], [], []⟩ : Tg).chain ++ [enT]) = some (0, [104, 101, 108, 108, 111]) := by decide +kernel
  rw [h]
end Tn
end Go.Proofs.YtghohnbajbikjaaGreatDoor
