/- AloneParts: the rounds of its loops, as runs; ref.Put by itself, alone.Run over a memory of unknown room. No condition. -/
import Derived.Test.YtmickljjofbmiaaGreatDoorSCs
namespace Go.Proofs.YtmickljjofbmiaaGreatDoor
open Go Go.Proofs
set_option maxRecDepth 100000 in
theorem BR_chk0 : (match (ev (O4 (Qj (abL 20))) 4000).code BRL.rnd BRL.body BRI0.fr BRI0.st with | raw => sV tM BRL.st.n BRI0 [BRI0, BRI1] [BRO0, BRO1] raw QQ) = true := by kernel_rfl
set_option maxRecDepth 100000 in
theorem BR_chk1 : (match (ev (O4 (Qj (abM 30))) 4000).code BRL.rnd BRL.body BRI1.fr BRI1.st with | raw => sV tM BRL.st.n BRI1 [BRI0, BRI1] [BRO0, BRO1] raw K2) = true := by kernel_rfl
set_option maxRecDepth 100000 in
theorem BR_ok : (pD 7 BRL [BRI0, BRI1] && (tK 7 BRL.st.n [BRO0, BRO1] && fit tM (lU BRI0 BRL.fr BRL.st [] []) BRL.st.n BRI0 BRL.fr BRL.st)) = true := by kernel_rfl
set_option maxRecDepth 100000 in
theorem PP_chk0 : (match (ev (O4 (smPP (.lit 0))) 4000).code none PPBody PPI0.fr PPI0.st with | raw => sV tPP PPn PPI0 [PPI0, PPI1, PPI2] [PPO0, PPO1] raw PPl0) = true := by kernel_rfl
set_option maxRecDepth 100000 in
theorem PP_chk1 : (match (ev (O4 (smPP (.var 100))) 4000).code none PPBody PPI1.fr PPI1.st with | raw => sV tPP PPn PPI1 [PPI0, PPI1, PPI2] [PPO0, PPO1] raw (PPl 1 (.base 20))) = true := by kernel_rfl
set_option maxRecDepth 100000 in
theorem PP_chk2 : (match (ev (O4 (smPP (.var 100))) 4000).code none PPBody PPI2.fr PPI2.st with | raw => sV tPP PPn PPI2 [PPI0, PPI1, PPI2] [PPO0, PPO1] raw (PPl 2 (.base 30))) = true := by kernel_rfl
noncomputable def okPP (z k : Nat) : Bool := pD 7 (PPL z k) [PPI0, PPI1, PPI2] && (tK 7 PPn [PPO0, PPO1] && fit tPP (lU PPI0 PPFr (PPL z k).st [] []) PPn PPI0 PPFr (PPL z k).st)
set_option maxRecDepth 100000 in
theorem PP_ok1 : bM (okPP 1 0) (okPP 1 1) (okPP 1 2) (okPP 1 3) true true = true := by kernel_rfl
set_option maxRecDepth 100000 in
theorem PP_ok2 : bM (okPP 2 0) (okPP 2 1) (okPP 2 2) (okPP 2 3) true true = true := by kernel_rfl
set_option maxRecDepth 100000 in
theorem PT0_run : tz PT0P ((X1 (O4 []) 4000).call 19 PT0P.args (PT0P.st aj)) = PT0R := by kernel_rfl
set_option maxRecDepth 100000 in
theorem PT1_run : tz PT1P ((X1 (O4 []) 4000).call 19 PT1P.args (PT1P.st aj)) = PT1R := by kernel_rfl
end Go.Proofs.YtmickljjofbmiaaGreatDoor
