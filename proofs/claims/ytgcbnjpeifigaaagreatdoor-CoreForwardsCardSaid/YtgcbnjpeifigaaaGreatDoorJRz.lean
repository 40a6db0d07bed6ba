/- CorePlay's loop over acts: all rounds. No condition. -/
import Derived.Test.YtgcbnjpeifigaaaGreatDoorJLp
import Derived.Test.YtgcbnjpeifigaaaGreatDoorJC1
import Derived.Test.YtgcbnjpeifigaaaGreatDoorJC3
import Derived.Test.YtgcbnjpeifigaaaGreatDoorJC6
import Derived.Test.YtgcbnjpeifigaaaGreatDoorJC9
import Derived.Test.YtgcbnjpeifigaaaGreatDoorJC10
import Derived.Test.YtgcbnjpeifigaaaGreatDoorJC11
import Derived.Test.YtgcbnjpeifigaaaGreatDoorJC12
import Derived.Test.YtgcbnjpeifigaaaGreatDoorJC13
import Derived.Test.YtgcbnjpeifigaaaGreatDoorJC14
namespace Go.Proofs.YtgcbnjpeifigaaaGreatDoor
open Go Go.Proofs
theorem cK{j:Nat} (h00:ao (aN j) 0 0=true) (h01:ao (aN j) 0 1=true) (h10:ao (aN j) 1 0=true) (h11:ao (aN j) 1 1=true) (h20:ao (aN j) 2 0=true) (h21:ao (aN j) 2 1=true) (h30:ao (aN j) 3 0=true) (h31:ao (aN j) 3 1=true) (h40:ao (aN j) 4 0=true) (h41:ao (aN j) 4 1=true) (h50:ao (aN j) 5 0=true) (h51:ao (aN j) 5 1=true) (h60:ao (aN j) 6 0=true) (h61:ao (aN j) 6 1=true) (h70:ao (aN j) 7 0=true) (h71:ao (aN j) 7 1=true) (h80:ao (aN j) 8 0=true) (h81:ao (aN j) 8 1=true):∀ k r,k<9->r<2->ao (aN j) k r=true:=by
 intro k r hk hr
 match k,r,hk,hr with
 |0,0,_,_=>exact h00
 |0,1,_,_=>exact h01
 |1,0,_,_=>exact h10
 |1,1,_,_=>exact h11
 |2,0,_,_=>exact h20
 |2,1,_,_=>exact h21
 |3,0,_,_=>exact h30
 |3,1,_,_=>exact h31
 |4,0,_,_=>exact h40
 |4,1,_,_=>exact h41
 |5,0,_,_=>exact h50
 |5,1,_,_=>exact h51
 |6,0,_,_=>exact h60
 |6,1,_,_=>exact h61
 |7,0,_,_=>exact h70
 |7,1,_,_=>exact h71
 |8,0,_,_=>exact h80
 |8,1,_,_=>exact h81
theorem E5:∀ j k r,j<15->k<9->r<2->ao (aN j) k r=true:=by
 intro j k r hj
 match j,hj with
 |0,_=>exact cK aj2 aj3 aj4 aj5 aj6 aj7 aj8 aj9 aka akb akc akd ake akf akg aki c0_8_0 c0_8_1 k r
 |1,_=>exact cK akj akk akl akm akn ako akp akq akr aks akt aku akv akw akx aky c1_8_0 c1_8_1 k r
 |2,_=>exact cK akz akA akB akC akD akE akF akG akI akJ akK akL akM akN akO akP c2_8_0 c2_8_1 k r
 |3,_=>exact cK akQ akR akS akT akU akV akW akX akY akZ akh ak0 ak1 ak2 ak3 ak4 c3_8_0 c3_8_1 k r
 |4,_=>exact cK ak5 ak6 ak7 ak8 ak9 ala alb alc ald ale alf alg ali alj alk alm c4_8_0 c4_8_1 k r
 |5,_=>exact cK aln alo alp alq alr als alu alv alw alx aly alz alA alB alC alD c5_8_0 c5_8_1 k r
 |6,_=>exact cK alE alF alG alI alJ alK alL alM alN alO alP alQ alR alS alT alU c6_8_0 c6_8_1 k r
 |7,_=>exact cK alV alW alX alY alZ alh al0 al1 al2 al3 al4 al5 al6 al7 al8 al9 c7_8_0 c7_8_1 k r
 |8,_=>exact cK ama amb amc amd ame amf amg ami amj amk aml amm amn amp amq amr c8_8_0 c8_8_1 k r
 |9,_=>exact cK ams amt amu amv amw amx amy amz amA amB amC amD amE amF amG amI c9_8_0 c9_8_1 k r
 |10,_=>exact cK ZD ZE ZF ZG ZI ZJ ZK ZL ZM ZN ZO ZP ZQ ZR ZS ZT c10_8_0 c10_8_1 k r
 |11,_=>exact cK ZU ZV ZW ZX ZY ZZ Zh Z0 Z1 Z2 Z3 Z4 Z5 Z6 Z7 Z8 c11_8_0 c11_8_1 k r
 |12,_=>exact cK Z9 aaa aab aac aad aae aaf aag aai aaj aak aal aam aan aao aap c12_8_0 c12_8_1 k r
 |13,_=>exact cK aaq aar aas aat aau aav aaw aax aay aaz aaA aaB aaC aaD aaE aaF c13_8_0 c13_8_1 k r
 |14,_=>exact cK aaG aaI aaJ aaK aaL aaM aaN aaO aaP aaQ aaR aaS aaT aaU aaV aaW c14_8_0 c14_8_1 k r
end Go.Proofs.YtgcbnjpeifigaaaGreatDoor
