/- CoreReserves: the law's cases, as runs, CorePlay told. No condition. -/
import Derived.Test.YtgcbnjpeifigaaaGreatDoorJPk
import Derived.Test.YtgcbnjpeifigaaaGreatDoorFwH
set_option maxRecDepth 100000
namespace Go.Proofs.YtgcbnjpeifigaaaGreatDoor
open Go Go.Proofs
noncomputable section
def YU:List V->Bool
 |[]=>true
 |v::l=>match v with
  |.int .u32 x=>match pq 0 4294967295 x with
   |true=>YU l
   |false=>false
  |_=>false
def US(b n:Nat):Cp->Bool
 |.known m=>Nat.ble n m
 |.room b' o m=>bc (Nat.beq b b') (Nat.beq o 0) (Nat.beq m n) true true true
def acF:PC:=[(.le (.lit 1) (.var 50),true),(.le (.var 50) (.lit 60),true),(.le (.var 50) (.var 51),true)]
def aoD(st:St)(v:V):Bool:=match v with
 |.nilslice=>true
 |.xslice true 9 (.lit (.ofNat 0)) 4 x (.known (.var 51))=>match x with
  |.lit (.ofNat 0)=>true
  |.var 50=>match iP st 9 oAc with
   |true=>ck st.pc acF
   |false=>false
  |_=>false
 |_=>false
def acy(args:List V)(st:St):R (V×St):=match args with
 |[.int .i64 (.lit (.ofNat i)),.agg [.slice b 0 n cap,z16,z1,z2],av]=>match st.h.get b with
  |some (.cells cs e _)=>match bc (Nat.ble i 3) (Nat.beq e 38) (YU cs) (Nat.ble n cs.length) (Nat.ble 1 n) (bc (Nat.ble n 60) (US b n cap) (aoD st av) (V.cM [z16,z1,z2] [i64 (.lit 16),i64 (.lit 1),i64 (.lit 1)]) true true)with
   |true=>.ok (.bool (.lit 1),{st with h:=st.h.set b (.opt (.lit 0) [] 38),n:=st.n+bm})
   |false=>.stuck "play"
  |_=>.stuck "play: code"
 |_=>.stuck "play"
def cxV:Cx:={cx with dm:=RX,sx:=true,js:=true,sm:=tW [(4,sG acy),(10,bY aj 7 sQ)]}
def le'(a b:X):X×Bool:=(.le a b,true)
def lV(i:Nat):V×PC×List (Nat×ak):=match i with
 |0=>(.nilslice,[],[])
 |1=>(.xslice true 8 (.lit 0) 1 (.lit 0) (.known (.var 41)),[le' (.lit 0) (.var 41)],[])
 |22=>(.xslice true 8 (.lit 0) 1 (.var 40) (.known (.var 41)),[(.lt (.lit 20) (.var 40),true),le' (.var 40) (.var 41)],[(8,.warr 8 10 [.int .u8] (.var 40))])
 |n=>(.xslice true 8 (.lit 0) 1 (nl (n-1)) (.known (.var 41)),[le' (nl (n-1)) (.var 41)],[(8,.warr 8 10 [.int .u8] (nl (n-1)))])
def aV(j:Nat):V×PC×List (Nat×ak):=match j with
 |0=>(.nilslice,[],[])
 |1=>(.xslice true 9 (.lit 0) 4 (.lit 0) (.known (.var 51)),[le' (.lit 0) (.var 51)],[])
 |2=>(.xslice true 9 (.lit 0) 4 (.var 50) (.known (.var 51)),acF,[(9,oAc)])
 |_=>(.xslice true 9 (.lit 0) 4 (.var 50) (.known (.var 51)),[(.lt (.lit 60) (.var 50),true),le' (.var 50) (.var 51)],[(9,oAc)])
def wsV(i j:Nat):List (Nat×ak):=(lV i).2.2++(aV j).2.2
def pcV(i j:Nat):PC:=(lV i).2.1++((aV j).2.1++[le' (.lit 0) (.lit 7),le' (.lit 0) (.lit 8)])
def okV(i j:Nat):Bool:=kq ((PL cxV 4000).call 6 [(lV i).1,(aV j).1] (IQ aj (wsV i j) 10 (pcV i j)))
def Ow:Nat->Nat->Bool
 |_,0=>true
 |i,k+1=>match bc (okV i 0) (okV i 1) (okV i 2) (okV i 3) true true with
  |true=>Ow (i+1) k
  |false=>false
end
theorem ara:Ow 0 8=true:=by kernel_rfl
theorem arb:Ow 8 6=true:=by kernel_rfl
theorem arc:Ow 14 5=true:=by kernel_rfl
theorem ard:Ow 19 4=true:=by kernel_rfl
end Go.Proofs.YtgcbnjpeifigaaaGreatDoor
