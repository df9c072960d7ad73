/- The example of chapter 24 -/
import Derived.Test.YtnaneekpogohaaaGreatDoorXeGx
import Derived.Test.YtnaneekpogohaaaGreatDoorHmYbx
namespace Go.Am
open Go.Proofs
set_option maxRecDepth 1000000
def Lv:AV:=.agg [.str [112,111,115,105,120],.vs 1 .no [.int .i64 0,.int .i64 1,.int .i64 2,.int .i64 3,.int .i64 4,.int .i64 5,.int .i64 6,.int .i64 7,.int .i64 8,.int .i64 9,.int .i64 10,.int .i64 11,.int .i64 12,.int .i64 13,.int .i64 14,.int .i64 15,.int .i64 16,.int .i64 17,.int .i64 18,.int .i64 19,.int .i64 20,.int .i64 21,.int .i64 22,.int .i64 23,.int .i64 24,.int .i64 25,.int .i64 26,.int .i64 27,.int .i64 28,.int .i64 29,.int .i64 30,.int .i64 31,.int .i64 32,.int .i64 33,.int .i64 34,.int .i64 35,.int .i64 36,.int .i64 37,.int .i64 38,.int .i64 39,.int .i64 40,.int .i64 41,.int .i64 42,.int .i64 43,.int .i64 44,.int .i64 45,.int .i64 46,.int .i64 47,.int .i64 48,.int .i64 49,.int .i64 50,.int .i64 51,.int .i64 52,.int .i64 53,.int .i64 54,.int .i64 55,.int .i64 56,.int .i64 57,.int .i64 58,.int .i64 59,.int .i64 60,.int .i64 61,.int .i64 62,.int .i64 63,.int .i64 64,.int .i64 65,.int .i64 66,.int .i64 67,.int .i64 68,.int .i64 69,.int .i64 70,.int .i64 71,.int .i64 72,.int .i64 73,.int .i64 74,.int .i64 75,.int .i64 76,.int .i64 77,.int .i64 78,.int .i64 79,.int .i64 80,.int .i64 81,.int .i64 82,.int .i64 83,.int .i64 84,.int .i64 85,.int .i64 86,.int .i64 87,.int .i64 88,.int .i64 89,.int .i64 90,.int .i64 91,.int .i64 92,.int .i64 93,.int .i64 94,.int .i64 95,.int .i64 96,.int .i64 97,.int .i64 98,.int .i64 99,.int .i64 100,.int .i64 101,.int .i64 102,.int .i64 103,.int .i64 104,.int .i64 105,.int .i64 106,.int .i64 107,.int .i64 108,.int .i64 109,.int .i64 110,.int .i64 111,.int .i64 112,.int .i64 113,.int .i64 114,.int .i64 115,.int .i64 116,.int .i64 117,.int .i64 118,.int .i64 119,.int .i64 120,.int .i64 121,.int .i64 122,.int .i64 123,.int .i64 124,.int .i64 125,.int .i64 126,.int .i64 127,.int .i64 128,.int .i64 129,.int .i64 130,.int .i64 131,.int .i64 132,.int .i64 133,.int .i64 134,.int .i64 135,.int .i64 136,.int .i64 137,.int .i64 138,.int .i64 139,.int .i64 140,.int .i64 141,.int .i64 142,.int .i64 143,.int .i64 144,.int .i64 145,.int .i64 146,.int .i64 147,.int .i64 148,.int .i64 149,.int .i64 150,.int .i64 151,.int .i64 152,.int .i64 153,.int .i64 154,.int .i64 155,.int .i64 156,.int .i64 157,.int .i64 158,.int .i64 159,.int .i64 160,.int .i64 161,.int .i64 162,.int .i64 163,.int .i64 164,.int .i64 165,.int .i64 166,.int .i64 167,.int .i64 168,.int .i64 169,.int .i64 170,.int .i64 171,.int .i64 172,.int .i64 173,.int .i64 174,.int .i64 175,.int .i64 176,.int .i64 177,.int .i64 178,.int .i64 179,.int .i64 180,.int .i64 181,.int .i64 182,.int .i64 183,.int .i64 184,.int .i64 185,.int .i64 186,.int .i64 187,.int .i64 188,.int .i64 189,.int .i64 190,.int .i64 191,.int .i64 192,.int .i64 193,.int .i64 194,.int .i64 195,.int .i64 196,.int .i64 197,.int .i64 198,.int .i64 199,.int .i64 200,.int .i64 201,.int .i64 202,.int .i64 203,.int .i64 204,.int .i64 205,.int .i64 206,.int .i64 207,.int .i64 208,.int .i64 209,.int .i64 210,.int .i64 211,.int .i64 212,.int .i64 213,.int .i64 214,.int .i64 215,.int .i64 216,.int .i64 217,.int .i64 218,.int .i64 219,.int .i64 220,.int .i64 221,.int .i64 222,.int .i64 223,.int .i64 224,.int .i64 225,.int .i64 226,.int .i64 227,.int .i64 228,.int .i64 229,.int .i64 230,.int .i64 231,.int .i64 232,.int .i64 233,.int .i64 234,.int .i64 235,.int .i64 236,.int .i64 237,.int .i64 238,.int .i64 239,.int .i64 240,.int .i64 241,.int .i64 242,.int .i64 243,.int .i64 244,.int .i64 245,.int .i64 246,.int .i64 247,.int .i64 248,.int .i64 249,.int .i64 250,.int .i64 251,.int .i64 252,.int .i64 253,.int .i64 254,.int .i64 255],.str [0,1,2,3,4,5,6,7,8,9,10,11,12,13,14,15,16,17,18,19,20,21,22,23,24,25,26,27,28,29,30,31,32,33,34,35,36,37,38,39,40,41,42,43,44,45,46,47,48,49,50,51,52,53,54,55,56,57,58,59,60,61,62,63,64,97,98,99,100,101,102,103,104,105,106,107,108,109,110,111,112,113,114,115,116,117,118,119,120,121,122,91,92,93,94,95,96,97,98,99,100,101,102,103,104,105,106,107,108,109,110,111,112,113,114,115,116,117,118,119,120,121,122,123,124,125,126,127,128,129,130,131,132,133,134,135,136,137,138,139,140,141,142,143,144,145,146,147,148,149,150,151,152,153,154,155,156,157,158,159,160,161,162,163,164,165,166,167,168,169,170,171,172,173,174,175,176,177,178,179,180,181,182,183,184,185,186,187,188,189,190,191,192,193,194,195,196,197,198,199,200,201,202,203,204,205,206,207,208,209,210,211,212,213,214,215,216,217,218,219,220,221,222,223,224,225,226,227,228,229,230,231,232,233,234,235,236,237,238,239,240,241,242,243,244,245,246,247,248,249,250,251,252,253,254,255],.str [0,1,2,3,4,5,6,7,8,9,10,11,12,13,14,15,16,17,18,19,20,21,22,23,24,25,26,27,28,29,30,31,32,33,34,35,36,37,38,39,40,41,42,43,44,45,46,47,48,49,50,51,52,53,54,55,56,57,58,59,60,61,62,63,64,65,66,67,68,69,70,71,72,73,74,75,76,77,78,79,80,81,82,83,84,85,86,87,88,89,90,91,92,93,94,95,96,65,66,67,68,69,70,71,72,73,74,75,76,77,78,79,80,81,82,83,84,85,86,87,88,89,90,123,124,125,126,127,128,129,130,131,132,133,134,135,136,137,138,139,140,141,142,143,144,145,146,147,148,149,150,151,152,153,154,155,156,157,158,159,160,161,162,163,164,165,166,167,168,169,170,171,172,173,174,175,176,177,178,179,180,181,182,183,184,185,186,187,188,189,190,191,192,193,194,195,196,197,198,199,200,201,202,203,204,205,206,207,208,209,210,211,212,213,214,215,216,217,218,219,220,221,222,223,224,225,226,227,228,229,230,231,232,233,234,235,236,237,238,239,240,241,242,243,244,245,246,247,248,249,250,251,252,253,254,255],.nils,.nils]
def Pv:AV:=.agg [.nils,.int .i64 (-1),.int .i64 0,.bool false,.bool false]
def sa:AV:=.str [97,49,50,51,52,53,54,55,56,57,48,49,50,51,52,53,54,55,56,57,48,49,50,51,52,53,54,55,56,57,48,49,50,51,52,53,54,55,56,57]
def sb:AV:=.str [98,49,50,51,52,53,54,55,56,57,48,49,50,51,52,53,54,55,56,57,48,49,50,51,52,53,54,55,56,57,48,49,50,51,52,53,54,55,56,57]
def sc:AV:=.str [99,49,50,51,52,53,54,55,56,57,48,49,50,51,52,53,54,55,56,57,48,49,50,51,52,53,54,55,56,57,48,49,50,51,52,53,54,55,56,57]
def sd:AV:=.str [100,49,50,51,52,53,54,55,56,57,48,49,50,51,52,53,54,55,56,57,48,49,50,51,52,53,54,55,56,57,48,49,50,51,52,53,54,55,56,57]
def se:AV:=.str [101,49,50,51,52,53,54,55,56,57,48,49,50,51,52,53,54,55,56,57,48,49,50,51,52,53,54,55,56,57,48,49,50,51,52,53,54,55,56,57]
def tb0:List (Nat×List AV×AV):=[]
theorem Zui:Xr cfg (Yf tb0):=Zx6
def tb1:List (Nat×List AV×AV):=(14,[],Lv)::tb0
theorem Zuj:Xr cfg (Yf tb1):=Yc (K:=Yf tb0) (fuel:=10000) (d:=60) Zui (by kernel_rfl) Zui
def tb2:List (Nat×List AV×AV):=(143,[Lv],.int .i64 0)::tb1
theorem Zuk:Xr cfg (Yf tb2):=Yc (K:=Yf tb1) (fuel:=10000) (d:=60) Zuj (by kernel_rfl) Zuj
def tb3:List (Nat×List AV×AV):=(107,[Lv],Lv)::tb2
theorem Zul:Xr cfg (Yf tb3):=Yc (K:=Yf tb2) (fuel:=10000) (d:=60) Zuk (by kernel_rfl) Zuk
def tb4:List (Nat×List AV×AV):=(52,[Pv],.int .i64 0)::tb3
theorem Zum:Xr cfg (Yf tb4):=Yc (K:=Yf tb3) (fuel:=10000) (d:=60) Zul (by kernel_rfl) Zul
def tb5:List (Nat×List AV×AV):=(86,[Pv],Pv)::tb4
theorem Zun:Xr cfg (Yf tb5):=Yc (K:=Yf tb4) (fuel:=10000) (d:=60) Zum (by kernel_rfl) Zum
def tb6:List (Nat×List AV×AV):=(56,[Lv,Pv,sa,sb],.int .i64 (-1))::tb5
theorem Zuo:Xr cfg (Yf tb6):=Yc (K:=Yf tb5) (fuel:=10000) (d:=60) Zun (by kernel_rfl) Zun
def tb7:List (Nat×List AV×AV):=(56,[Lv,Pv,sa,sc],.int .i64 (-1))::tb6
theorem Zup:Xr cfg (Yf tb7):=Yc (K:=Yf tb6) (fuel:=10000) (d:=60) Zuo (by kernel_rfl) Zuo
def tb8:List (Nat×List AV×AV):=(56,[Lv,Pv,sa,sd],.int .i64 (-1))::tb7
theorem Zuq:Xr cfg (Yf tb8):=Yc (K:=Yf tb7) (fuel:=10000) (d:=60) Zup (by kernel_rfl) Zup
def tb9:List (Nat×List AV×AV):=(56,[Lv,Pv,sa,se],.int .i64 (-1))::tb8
theorem Zur:Xr cfg (Yf tb9):=Yc (K:=Yf tb8) (fuel:=10000) (d:=60) Zuq (by kernel_rfl) Zuq
def Zx8:List (Nat×List AV×AV):=(56,[Lv,Pv,sb,sa],.int .i64 1)::tb9
theorem Zoy:Xr cfg (Yf Zx8):=Yc (K:=Yf tb9) (fuel:=10000) (d:=60) Zur (by kernel_rfl) Zur
def Zx9:List (Nat×List AV×AV):=(56,[Lv,Pv,sb,sc],.int .i64 (-1))::Zx8
theorem Zoz:Xr cfg (Yf Zx9):=Yc (K:=Yf Zx8) (fuel:=10000) (d:=60) Zoy (by kernel_rfl) Zoy
def Zxa:List (Nat×List AV×AV):=(56,[Lv,Pv,sb,sd],.int .i64 (-1))::Zx9
theorem ZoA:Xr cfg (Yf Zxa):=Yc (K:=Yf Zx9) (fuel:=10000) (d:=60) Zoz (by kernel_rfl) Zoz
def Zxb:List (Nat×List AV×AV):=(56,[Lv,Pv,sb,se],.int .i64 (-1))::Zxa
theorem ZoB:Xr cfg (Yf Zxb):=Yc (K:=Yf Zxa) (fuel:=10000) (d:=60) ZoA (by kernel_rfl) ZoA
def Zxc:List (Nat×List AV×AV):=(56,[Lv,Pv,sc,sa],.int .i64 1)::Zxb
theorem ZoC:Xr cfg (Yf Zxc):=Yc (K:=Yf Zxb) (fuel:=10000) (d:=60) ZoB (by kernel_rfl) ZoB
def Zxd:List (Nat×List AV×AV):=(56,[Lv,Pv,sc,sb],.int .i64 1)::Zxc
theorem ZoD:Xr cfg (Yf Zxd):=Yc (K:=Yf Zxc) (fuel:=10000) (d:=60) ZoC (by kernel_rfl) ZoC
def Zxe:List (Nat×List AV×AV):=(56,[Lv,Pv,sc,sd],.int .i64 (-1))::Zxd
theorem ZoE:Xr cfg (Yf Zxe):=Yc (K:=Yf Zxd) (fuel:=10000) (d:=60) ZoD (by kernel_rfl) ZoD
def Zxf:List (Nat×List AV×AV):=(56,[Lv,Pv,sc,se],.int .i64 (-1))::Zxe
theorem ZoF:Xr cfg (Yf Zxf):=Yc (K:=Yf Zxe) (fuel:=10000) (d:=60) ZoE (by kernel_rfl) ZoE
def Zxg:List (Nat×List AV×AV):=(56,[Lv,Pv,sd,sa],.int .i64 1)::Zxf
theorem ZoG:Xr cfg (Yf Zxg):=Yc (K:=Yf Zxf) (fuel:=10000) (d:=60) ZoF (by kernel_rfl) ZoF
def Zxh:List (Nat×List AV×AV):=(56,[Lv,Pv,sd,sb],.int .i64 1)::Zxg
theorem ZoH:Xr cfg (Yf Zxh):=Yc (K:=Yf Zxg) (fuel:=10000) (d:=60) ZoG (by kernel_rfl) ZoG
def Zxi:List (Nat×List AV×AV):=(56,[Lv,Pv,sd,sc],.int .i64 1)::Zxh
theorem ZoI:Xr cfg (Yf Zxi):=Yc (K:=Yf Zxh) (fuel:=10000) (d:=60) ZoH (by kernel_rfl) ZoH
def Zxj:List (Nat×List AV×AV):=(56,[Lv,Pv,sd,se],.int .i64 (-1))::Zxi
theorem ZoJ:Xr cfg (Yf Zxj):=Yc (K:=Yf Zxi) (fuel:=10000) (d:=60) ZoI (by kernel_rfl) ZoI
def Zxk:List (Nat×List AV×AV):=(56,[Lv,Pv,se,sa],.int .i64 1)::Zxj
theorem ZoK:Xr cfg (Yf Zxk):=Yc (K:=Yf Zxj) (fuel:=10000) (d:=60) ZoJ (by kernel_rfl) ZoJ
def Zxl:List (Nat×List AV×AV):=(56,[Lv,Pv,se,sb],.int .i64 1)::Zxk
theorem ZoL:Xr cfg (Yf Zxl):=Yc (K:=Yf Zxk) (fuel:=10000) (d:=60) ZoK (by kernel_rfl) ZoK
def Zxm:List (Nat×List AV×AV):=(56,[Lv,Pv,se,sc],.int .i64 1)::Zxl
theorem ZoM:Xr cfg (Yf Zxm):=Yc (K:=Yf Zxl) (fuel:=10000) (d:=60) ZoL (by kernel_rfl) ZoL
def ZAh:List (Nat×List AV×AV):=(56,[Lv,Pv,se,sd],.int .i64 1)::Zxm
theorem Zzf:Xr cfg (Yf ZAh):=Yc (K:=Yf Zxm) (fuel:=10000) (d:=60) ZoM (by kernel_rfl) ZoM
noncomputable def kE:Kn:=ZzD (Yf ZAh) 73 (C6 k0 Fg.cfg 1000 20 73)
theorem ZAE:Xr cfg kE:=Zyq (f:=73) (g:=forgetE) Zzf (by kernel_rfl) fun args H r h=>LV Zqo 1000 20 73 args H r h
theorem ZrY:okY (C6 kE cfg 10000 60 32 [] [])=true:=by kernel_rfl
theorem MK (H:Hp):Zf Hb [] H=some (.bool true,H):=ZwD ZAE ZrY H
end Go.Am
