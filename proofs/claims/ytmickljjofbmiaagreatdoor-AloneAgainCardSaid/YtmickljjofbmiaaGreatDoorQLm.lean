/- AloneAgain: what rounds of a told hart end in (plain functions). No condition. -/
import Derived.Test.YtmickljjofbmiaaGreatDoorFwH
namespace Go.Proofs.YtmickljjofbmiaaGreatDoor
open Go
noncomputable section
structure RdQ where
 n:X
 n1:X
 at_:X
 row:A
def abt(r:RdQ)(b:Nat)(at1:X):LM:=.next 1 (B4 ((100,r.n1)::(140,at1)::hv 100 (tb b r.n)) [(31,(xG,lN r.n 0 (yn b r.n) r.row))])
def ail(r:RdQ)(b:Nat)(at1:X):LM:=.out 1 (B4 ((60,r.n1)::(540,at1)::hv 500 (tb b r.n)) [(60,(xG,lN r.n 0 (yn b r.n) r.row))])
def aaz(r:RdQ)(b:Nat)(at1:X):R LM:=.br (.eq (tb b r.n 41) (.lit 0)) (.ok (abt r b at1)) (.ok (ail r b at1))
def abn(r:RdQ):LM:=.out 1 (B4 ((60,r.n1)::(534,.lit 4)::(540,r.at_)::hvL 500 (fun i=>.var (100+i)) 1 33) [(60,(xG,lN r.n 0 (Jb (.var 101)) r.row))])
def abM:LM:=.out 0 (B4 ((60,.var 100)::(540,.var 140)::hv 500 (fun i=>.var (100+i))) [(60,(xG,.base 31))])
def rh(k:Nat):Bool:=match k with
 | 1=>true
 | 3=>true
 | 4=>true
 | 5=>true
 | _=>false
def O6(nil t:Bool)(r:RdQ)(k _w:Nat):R LM:=match rh k,nil,t with
 | false,_,_=>aaz r 10 r.at_
 | true,true,_=>.ok .never
 | true,false,true=>aaz r 15 (.lit 1)
 | true,false,false=>.br (.lt (.var 140) (.var 62)) (aaz r 15 (.add (.var 140) (.lit 1))) (.ok .never)
def am4:RdQ:=⟨.lit 0,.lit 1,.lit 0,.fill (.lit 0)⟩
def Wc(nil:Bool):RdQ:=⟨.var 100,.add (.var 100) (.lit 1),match nil with | true=>.lit 0 | false=>.var 140,.base 31⟩
def LP(nil:Bool):R LM:=rK (.lit 0) (.var 50) (O6 nil true am4) (.ok .never)
def EL(nil:Bool):R LM:=.br (.lt (.var 100) (.var 43)) (.br (.eq (.var 134) (.lit 0)) (Z8 (rK (.var 100) (.var 50) (O6 nil false (Wc nil)) (.ok .never)) (.ok (abn (Wc nil)))) (.ok .never)) (.ok abM)
def an2(at_:X):V:=.agg [u32 (rU (.fn1 75 at_)),.bool (.eq (.fn1 76 at_) (.lit 1))]
def alX(r:RowX)(at_:X):List (List V×R Leaf):=[([r.h,u32 r.w,Pu,agW],okE 10 r.n),([r.h,u32 r.w,Pu,an2 at_],okE 15 r.n)]
def smQ(fa fc:Nat) (L:List (Nat×List V)) (r:RowX) (at_:X):SmX:=[(fa,xZ r.g (bW L 7 (LJ r ai3))),(fc,xZ r.g (bW L 7 (alX r at_)))]
def k6(n:X):X:=.wrap .i64 (.fn1 62 n)
def zn{α:Type}(n:X)(y no:R α):R α:=.br (.eq (k6 n) (.lit 1)) y (.br (.eq (k6 n) (.lit 3)) y (.br (.eq (k6 n) (.lit 4)) y (.br (.eq (k6 n) (.lit 5)) y no)))
def ksA:List CK:=[.int .u32,.bool]
def NU(at_ n:X)(row:A):A:=lN at_ 0 [.wrap .u32 (.fn1 69 n),.eq (.fn1 70 n) (.lit 1)] row
def aeB(n1:X):LM:=.next 1 (B4 [(100,n1)] [])
def Rp(n1 at1:X)(row:A):LM:=.next 2 (B4 [(100,n1),(140,at1)] [(31,(ksA,row))])
def QJ:R LM:=zn (.lit 0) (.ok (Rp (.lit 1) (.lit 1) (NU (.lit 0) (.lit 0) (.fill (.lit 0))))) (.ok (aeB (.lit 1)))
def n1X:X:=.add (.var 100) (.lit 1)
def MC:R LM:=.br (.lt (.var 100) (.var 60)) (zn (.var 100) (.ok (Rp n1X (.lit 1) (NU (.lit 0) (.var 100) (.fill (.lit 0))))) (.ok (aeB n1X))) (.ok (.out 0 (B4 [] [])))
def Lr:R LM:=.br (.lt (.var 100) (.var 60)) (zn (.var 100) (.ok (Rp n1X (.add (.var 140) (.lit 1)) (NU (.var 140) (.var 100) (.base 31)))) (.ok (Rp n1X (.var 140) (.base 31)))) (.ok (.out 1 (B4 [(62,.var 140)] [(75,(ksA,.base 31))])))
end
end Go.Proofs.YtmickljjofbmiaaGreatDoor
