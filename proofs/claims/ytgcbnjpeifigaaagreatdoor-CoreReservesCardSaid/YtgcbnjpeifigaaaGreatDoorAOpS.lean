/- What the Ops' meanings lean on leaves, by runs. Alone: the four calls of each Op, as runs. No condition. -/
import Derived.Test.YtgcbnjpeifigaaaGreatDoorABits
import Derived.Test.YtgcbnjpeifigaaaGreatDoorFwH
set_option maxRecDepth 100000
namespace Go.Proofs.YtgcbnjpeifigaaaGreatDoor
open Go Go.Proofs
set_option maxRecDepth 100000
def iT:X:=.wrap .u32 (.var 0)
def iU:V:=.int .u32 iT
def jW:X:=.wrap .u32 (.var 1)
def jX:V:=.int .u32 jW
def zc:X:=.eq jW (.lit 0)
def E3:X:=.wrap .i32 iT
def WU:X:=.rem jW (.lit (32))
def QZ:X:=.wrap .i64 (.var 0)
def WV:V:=.int .i64 (.lit (1))
def WW:V:=.int .i64 (.lit (2))
def X3:List (List V×R Leaf):=[([iU,jX],(lf 7 (.int .u32 (.wrap .u32 (.add iT jW)))))]
theorem Tn:bM (lz (jK aob)) aj 7 4000 147 X3:=aG (by kernel_rfl)
noncomputable def Xt:l9:=(147,cb aj 7 X3)::aob
theorem apw{ro:Nat->Obj}(h:aZ ro):aO ro Xt:=aO.m8 at4 h Tryz.func147 Tn
def Yk:List (List V×R Leaf):=[([iU,jX],(lf 7 (.int .u32 (.wrap .u32 (.sub iT jW)))))]
theorem TF:bM (lz (jK Xt)) aj 7 4000 241 Yk:=aG (by kernel_rfl)
noncomputable def XK:l9:=(241,cb aj 7 Yk)::Xt
theorem apL{ro:Nat->Obj}(h:aZ ro):aO ro XK:=aO.m8 (apw h) h Tryz.func241 TF
def Yl:List (List V×R Leaf):=[([iU,jX],(lf 7 (.int .u32 (.ite zc (.lit 4294967295) (.wrap .u32 (.quo E3 (.wrap .i32 jW)))))))]
theorem TG:bM (lz (jK XK)) aj 7 4000 249 Yl:=aG (by kernel_rfl)
noncomputable def XL:l9:=(249,cb aj 7 Yl)::XK
theorem apM{ro:Nat->Obj}(h:aZ ro):aO ro XL:=aO.m8 (apL h) h Tryz.func249 TG
def Ym:List (List V×R Leaf):=[([iU,jX],(lf 7 (.int .u32 (.ite zc (.lit 4294967295) (.wrap .u32 (.quo iT jW))))))]
theorem TI:bM (lz (jK XL)) aj 7 4000 250 Ym:=aG (by kernel_rfl)
noncomputable def XM:l9:=(250,cb aj 7 Ym)::XL
theorem apN{ro:Nat->Obj}(h:aZ ro):aO ro XM:=aO.m8 (apM h) h Tryz.func250 TI
def Yn:List (List V×R Leaf):=[([iU,jX],(lf 7 (.int .u32 (.ite zc iT (.wrap .u32 (.rem E3 (.wrap .i32 jW)))))))]
theorem TJ:bM (lz (jK XM)) aj 7 4000 251 Yn:=aG (by kernel_rfl)
noncomputable def XN:l9:=(251,cb aj 7 Yn)::XM
theorem apO{ro:Nat->Obj}(h:aZ ro):aO ro XN:=aO.m8 (apN h) h Tryz.func251 TJ
def Yo:List (List V×R Leaf):=[([iU,jX],(lf 7 (.int .u32 (.ite zc iT (.rem iT jW)))))]
theorem TK:bM (lz (jK XN)) aj 7 4000 252 Yo:=aG (by kernel_rfl)
noncomputable def XO:l9:=(252,cb aj 7 Yo)::XN
theorem apP{ro:Nat->Obj}(h:aZ ro):aO ro XO:=aO.m8 (apO h) h Tryz.func252 TK
def X5:List (List V×R Leaf):=[([iU,jX],(lf 7 (.int .u32 (.wrap .u32 (.add iT jW)))))]
theorem Tp:bM (lz (jK XO)) aj 7 4000 156 X5:=aG (by kernel_rfl)
noncomputable def Xv:l9:=(156,cb aj 7 X5)::XO
theorem apx{ro:Nat->Obj}(h:aZ ro):aO ro Xv:=aO.m8 (apP h) h Tryz.func156 Tp
def Yu:List (List V×R Leaf):=[([iU,jX],(lf 7 (.int .u32 (.wrap .u32 (.sub iT jW)))))]
theorem TQ:bM (lz (jK Xv)) aj 7 4000 278 Yu:=aG (by kernel_rfl)
noncomputable def XU:l9:=(278,cb aj 7 Yu)::Xv
theorem apV{ro:Nat->Obj}(h:aZ ro):aO ro XU:=aO.m8 (apx h) h Tryz.func278 TQ
def Yv:List (List V×R Leaf):=[([iU,jX],(lf 7 (.int .u32 (.wrap .u32 (.mul iT jW)))))]
theorem TR:bM (lz (jK XU)) aj 7 4000 279 Yv:=aG (by kernel_rfl)
noncomputable def XV:l9:=(279,cb aj 7 Yv)::XU
theorem apW{ro:Nat->Obj}(h:aZ ro):aO ro XV:=aO.m8 (apV h) h Tryz.func279 TR
def Yw:List (List V×R Leaf):=[([iU,jX],(lf 8 (.int .u32 (.quo (.mul iT jW) (.lit 4294967296)))))]
theorem TT:bM (lz (jK XV)) aj 7 4000 282 Yw:=aG (by kernel_rfl)
noncomputable def XW:l9:=(282,cb aj 7 Yw)::XV
theorem apX{ro:Nat->Obj}(h:aZ ro):aO ro XW:=aO.m8 (apW h) h Tryz.func282 TT
def Yx:List (List V×R Leaf):=[([iU,jX],(lf 7 (.int .u32 (.ite zc (.lit 4294967295) (.wrap .u32 (.quo E3 (.wrap .i32 jW)))))))]
theorem TU:bM (lz (jK XW)) aj 7 4000 283 Yx:=aG (by kernel_rfl)
noncomputable def XX:l9:=(283,cb aj 7 Yx)::XW
theorem apY{ro:Nat->Obj}(h:aZ ro):aO ro XX:=aO.m8 (apX h) h Tryz.func283 TU
def Yy:List (List V×R Leaf):=[([iU,jX],(lf 7 (.int .u32 (.ite zc (.lit 4294967295) (.wrap .u32 (.quo iT jW))))))]
theorem TV:bM (lz (jK XX)) aj 7 4000 284 Yy:=aG (by kernel_rfl)
noncomputable def XY:l9:=(284,cb aj 7 Yy)::XX
theorem apZ{ro:Nat->Obj}(h:aZ ro):aO ro XY:=aO.m8 (apY h) h Tryz.func284 TV
def Yz:List (List V×R Leaf):=[([iU,jX],(lf 7 (.int .u32 (.ite zc iT (.wrap .u32 (.rem E3 (.wrap .i32 jW)))))))]
theorem TW:bM (lz (jK XY)) aj 7 4000 285 Yz:=aG (by kernel_rfl)
noncomputable def XZ:l9:=(285,cb aj 7 Yz)::XY
theorem aph{ro:Nat->Obj}(h:aZ ro):aO ro XZ:=aO.m8 (apZ h) h Tryz.func285 TW
def YA:List (List V×R Leaf):=[([iU,jX],(lf 7 (.int .u32 (.ite zc iT (.rem iT jW)))))]
theorem TX:bM (lz (jK XZ)) aj 7 4000 286 YA:=aG (by kernel_rfl)
noncomputable def Xh:l9:=(286,cb aj 7 YA)::XZ
theorem ap0{ro:Nat->Obj}(h:aZ ro):aO ro Xh:=aO.m8 (aph h) h Tryz.func286 TX
def Yr:List (List V×R Leaf):=[([iU,jX],(lf 7 (.int .u32 (.shl .u32 iT WU))))]
theorem TN:bM (lz (jK Xh)) aj 7 4000 273 Yr:=aG (by kernel_rfl)
noncomputable def XR:l9:=(273,cb aj 7 Yr)::Xh
theorem apS{ro:Nat->Obj}(h:aZ ro):aO ro XR:=aO.m8 (ap0 h) h Tryz.func273 TN
def Ys:List (List V×R Leaf):=[([iU,jX],(lf 7 (.int .u32 (.shr .u32 iT WU))))]
theorem TO:bM (lz (jK XR)) aj 7 4000 275 Ys:=aG (by kernel_rfl)
noncomputable def XS:l9:=(275,cb aj 7 Ys)::XR
theorem apT{ro:Nat->Obj}(h:aZ ro):aO ro XS:=aO.m8 (apS h) h Tryz.func275 TO
def Yt:List (List V×R Leaf):=[([iU,jX],(lf 7 (.int .u32 (.wrap .u32 (.shr .i32 E3 WU)))))]
theorem TP:bM (lz (jK XS)) aj 7 4000 277 Yt:=aG (by kernel_rfl)
noncomputable def XT:l9:=(277,cb aj 7 Yt)::XS
theorem apU{ro:Nat->Obj}(h:aZ ro):aO ro XT:=aO.m8 (apT h) h Tryz.func277 TP
def Yq:List (List V×R Leaf):=[([(.bool (.var 0))],(lf 7 (.int .u32 (.ite (.var 0) (.lit 1) (.lit 0)))))]
theorem TM:bM (lz (jK XT)) aj 7 4000 255 Yq:=aG (by kernel_rfl)
noncomputable def XQ:l9:=(255,cb aj 7 Yq)::XT
theorem apR{ro:Nat->Obj}(h:aZ ro):aO ro XQ:=aO.m8 (apU h) h Tryz.func255 TM
def Yj:List (List V×R Leaf):=[([(.bool (.var 0))],(lf 7 (.int .u32 (.ite (.var 0) (.lit 1) (.lit 0)))))]
theorem TE:bM (lz (jK XQ)) aj 7 4000 202 Yj:=aG (by kernel_rfl)
noncomputable def XJ:l9:=(202,cb aj 7 Yj)::XQ
theorem apK{ro:Nat->Obj}(h:aZ ro):aO ro XJ:=aO.m8 (apR h) h Tryz.func202 TE
def X2:List (List V×R Leaf):=[([iU],(lf 7 (.int .i64 E3)))]
theorem Tl:bM (lz (jK XJ)) aj 7 4000 146 X2:=aG (by kernel_rfl)
noncomputable def Xs:l9:=(146,cb aj 7 X2)::XJ
theorem apv{ro:Nat->Obj}(h:aZ ro):aO ro Xs:=aO.m8 (apK h) h Tryz.func146 Tl
def Ye:List (List V×R Leaf):=[([(.int .i64 QZ)],(lf 7 (.int .u32 (.ite (.lt QZ (.lit 0)) (.wrap .u32 (.wrap .i64 (.add QZ (.lit 4294967296)))) (.wrap .u32 QZ)))))]
theorem Tz:bM (lz (jK Xs)) aj 7 4000 197 Ye:=aG (by kernel_rfl)
noncomputable def XE:l9:=(197,cb aj 7 Ye)::Xs
theorem apF{ro:Nat->Obj}(h:aZ ro):aO ro XE:=aO.m8 (apv h) h Tryz.func197 Tz
def Yp:List (List V×R Leaf):=[([],(.ok {v:=(.map 7),objs:=[(7,.map [((.int .i64 (.lit (19))),(.func (.func 156) [] [])),((.int .i64 (.lit (20))),(.func (.func 267) [] [])),((.int .i64 (.lit (21))),(.func (.func 268) [] [])),((.int .i64 (.lit (22))),(.func (.func 269) [] [])),((.int .i64 (.lit (23))),(.func (.func 270) [] [])),((.int .i64 (.lit (24))),(.func (.func 271) [] [])),((.int .i64 (.lit (25))),(.func (.func 272) [] [])),((.int .i64 (.lit (26))),(.func (.func 274) [] [])),((.int .i64 (.lit (27))),(.func (.func 276) [] [])),((.int .i64 (.lit (28))),(.func (.func 156) [] [])),((.int .i64 (.lit (29))),(.func (.func 278) [] [])),((.int .i64 (.lit (30))),(.func (.func 272) [] [])),((.int .i64 (.lit (31))),(.func (.func 267) [] [])),((.int .i64 (.lit (32))),(.func (.func 268) [] [])),((.int .i64 (.lit (33))),(.func (.func 269) [] [])),((.int .i64 (.lit (34))),(.func (.func 274) [] [])),((.int .i64 (.lit (35))),(.func (.func 276) [] [])),((.int .i64 (.lit (36))),(.func (.func 270) [] [])),((.int .i64 (.lit (37))),(.func (.func 271) [] [])),((.int .i64 (.lit (40))),(.func (.func 279) [] [])),((.int .i64 (.lit (41))),(.func (.func 280) [] [])),((.int .i64 (.lit (42))),(.func (.func 281) [] [])),((.int .i64 (.lit (43))),(.func (.func 282) [] [])),((.int .i64 (.lit (44))),(.func (.func 283) [] [])),((.int .i64 (.lit (45))),(.func (.func 284) [] [])),((.int .i64 (.lit (46))),(.func (.func 285) [] [])),((.int .i64 (.lit (47))),(.func (.func 286) [] []))])],n:=8}))]
theorem TL:bM (jK XE) aj 7 4000 253 Yp:=aG (by kernel_rfl)
noncomputable def XP:l9:=(253,bY aj 7 Yp)::XE
theorem apQ{ro:Nat->Obj}(h:aZ ro):aO ro XP:=aO.Dy (apF h) h Tryz.func253 TL
def X6:List (List V×R Leaf):=[([],(.ok {v:=(.map 7),objs:=[(7,.map [((.int .i64 (.lit (5))),(.func (.func 191) [] [])),((.int .i64 (.lit (6))),(.func (.func 192) [] [])),((.int .i64 (.lit (7))),(.func (.func 166) [] [])),((.int .i64 (.lit (9))),(.func (.func 167) [] [])),((.int .i64 (.lit (8))),(.func (.func 193) [] [])),((.int .i64 (.lit (10))),(.func (.func 194) [] []))])],n:=8}))]
theorem Tq:bM (jK XP) aj 7 4000 158 X6:=aG (by kernel_rfl)
noncomputable def Xw:l9:=(158,bY aj 7 X6)::XP
theorem apy{ro:Nat->Obj}(h:aZ ro):aO ro Xw:=aO.Dy (apQ h) h Tryz.func158 Tq
def X4:List (List V×R Leaf):=[([],(.ok {v:=(.map 7),objs:=[(7,.map [((.int .i64 (.lit (11))),WV),((.int .i64 (.lit (12))),WW),((.int .i64 (.lit (13))),(.int .i64 (.lit (4)))),((.int .i64 (.lit (14))),WV),((.int .i64 (.lit (15))),WW),((.int .i64 (.lit (16))),WV),((.int .i64 (.lit (17))),WW),((.int .i64 (.lit (18))),(.int .i64 (.lit (4))))])],n:=8}))]
theorem To:bM (jK Xw) aj 7 4000 155 X4:=aG (by kernel_rfl)
noncomputable def Xu:l9:=(155,bY aj 7 X4)::Xw
theorem adl{ro:Nat->Obj}(h:aZ ro):aO ro Xu:=aO.Dy (apy h) h Tryz.func155 To
end Go.Proofs.YtgcbnjpeifigaaaGreatDoor
namespace Go.Proofs.YtgcbnjpeifigaaaGreatDoor
open Go Go.Proofs
noncomputable def slO(op:Nat):l9:=(120,bY aj 7 [([pf],lf 1007 (uQ op))])::(136,bY aj 7 [([pf],lf 1007 (uQ op))])::Xu
noncomputable def cxO(op:Nat):Cx:={cx with dm:=RX,sm:=tW (slO op),sx:=true}
noncomputable def bf(op:Nat):Bool:=comp (PL (cxO op) 4000).call aj 7 100000 [(41,[uL,pf,zk]),(98,[uL,pf,zk]),(152,[uL,pf,zk,Ux]),(143,[uL,pf,zk,Ux])] [] pcO P9
def px:List Nat->Prop
 |[]=>True
 |k::l=>bf k=true/\px l
theorem px.mem:∀ {l:List Nat},px l->∀ k∈l,bf k=true
 |[],_,k,hk=>by simp at hk
 |j::l,h,k,hk=>by
  rcases List.mem_cons.1 hk with rfl|hk
  ·exact h.1
  ·exact px.mem h.2 k hk
end Go.Proofs.YtgcbnjpeifigaaaGreatDoor
