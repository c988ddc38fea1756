/- Ends: a part. Conditions: none. -/
import Derived.Test.YtmanpggemmgnnaaGreatDoorA11
set_option linter.all false
namespace Go.Proofs.YtmanpggemmgnnaaGreatDoor
noncomputable section
open Go Ka
namespace Tq
def prog:Program:=Pf Tryz.prog uE
def Uh P fs:(Pf P fs).toTables=P.toTables:=rfl
def Ag P fs t w:Sem.run (Pf P fs) (Go.typeInfo t) w=Sem.run P (Go.typeInfo t) w:=by show Sem.run (Pf P fs) (match P.info? t with|some i=>pure i|none=>stuck "no such type") w=Sem.run P (match P.info? t with|some i=>pure i|none=>stuck "no such type") w;cases P.info? t<;>rfl
def pq P fs t w:Sem.run (Pf P fs) (Go.underlying t) w=Sem.run P (Go.underlying t) w:=by show Sem.run (Pf P fs) (match P.underlying t with|some i=>pure i|none=>stuck "no such type") w=Sem.run P (match P.underlying t with|some i=>pure i|none=>stuck "no such type") w;cases P.underlying t<;>rfl
def IZ{α β} P hn s(f:α->Sem β)w(h:Sem.run hn s w=Sem.run P s w)(hf:∀a w,Sem.run hn (f a) w=Sem.run P (f a) w):Sem.run hn (s >>= f) w=Sem.run P (s >>= f) w:=by rw[Sem.run_bind,Sem.run_bind,h];congr 1;funext a w;exact hf a w
def Yi P fs t w:Sem.run (Pf P fs) (Go.isAgg t) w=Sem.run P (Go.isAgg t) w:=by unfold Go.isAgg;refine IZ P _ _ _ w (pq P fs t w) λd w=>?_;split<;>rfl
def IY P fs t w:Sem.run (Pf P fs) (Go.zeroValue t) w=Sem.run P (Go.zeroValue t) w:=by unfold Go.zeroValue;refine IZ P _ _ _ w (Ag P fs t w) λd w=>?_;split<;>rfl
def Ui P fs t w:Sem.run (Pf P fs) (Go.sizeOf t) w=Sem.run P (Go.sizeOf t) w:=by unfold Go.sizeOf;exact IZ P _ _ _ w (Ag P fs t w) λd w=>rfl
def E5 P fs t:(Pf P fs).underlying t=P.underlying t:=rfl
@[simp] theorem tables:prog.toTables=Tryz.prog.toTables:=Uh _ _
@[simp] theorem sizeOf t w:Sem.run prog (Go.sizeOf t) w=Sem.run Tryz.prog (Go.sizeOf t) w:=Ui _ _ t w
@[simp] theorem zeroValue t w:Sem.run prog (Go.zeroValue t) w=Sem.run Tryz.prog (Go.zeroValue t) w:=IY _ _ t w
@[simp] theorem isAgg t w:Sem.run prog (Go.isAgg t) w=Sem.run Tryz.prog (Go.isAgg t) w:=Yi _ _ t w
@[simp] theorem aAH t w:Sem.run prog (Go.underlying t) w=Sem.run Tryz.prog (Go.underlying t) w:=pq _ _ t w
@[simp] theorem underlying t:prog.underlying t=Tryz.prog.underlying t:=E5 _ _ t
def xV P fs:(Pf P fs).funcs=fs:=rfl
def Eb:prog.funcs=uE:=xV _ _
def get{i f}(h:Tryz.prog.funcs[i]? =some f)(A:keep i=true):prog.funcs[i]? =some f:=by rw[Eb,lN,h];simp only[fR,qi,A,j2]
def Uj{f} P{i:Nat}(h:P.funcs[i]? =some f)(Q:(f.name== "runtime.NumGoroutine")=false)(hb:f.body.isNone=false)args w:Sem.run P (callFunc i args) w=.ok (.enter i args) w:=by
 have:Sem.run P (callFunc i args) w=Sem.run P (match P.funcs[i]? with
  |none=>stuck "call: no such function"
  |some fn=>
   if fn.name== "runtime.NumGoroutine" then pure .numGoroutine
   else if fn.body.isNone then do
    mark (.extern i)
    if let some e:=Extern.findNext fn then return<-e args
    match Extern.find fn with
    |some e=>pure (.value (<-e args))
    |none=>
     if fn.name.endsWith ".init"&&!fn.name.startsWith "("&&!fn.name.startsWith "gosem." then pure (.value (.tuple #[]))
     else unsupported (.extern fn.name)
   else pure (.enter i args)) w:=rfl
 rw[this,h];simp only[Q,hb,cz,bh];rfl
def enters{f}{i:Nat}(h:prog.funcs[i]? =some f)(Q:(f.name== "runtime.NumGoroutine")=false)(hb:f.body.isNone=false)args w:Sem.run prog (callFunc i args) w=.ok (.enter i args) w:=Uj prog h Q hb args w
abbrev gP(i:Nat)(f:Func):Prop:=prog.funcs[i]? =some f
abbrev cP(n:Nat):Prop:=∀args w,Sem.run prog (callFunc n args) w=.ok (.enter n args) w
@[simp] theorem func15:gP 15 Tryz.f15:=get Tryz.func15 rfl
@[simp] theorem func17:gP 17 Tryz.f17:=get Tryz.func17 rfl
@[simp] theorem func22:gP 22 Tryz.f22:=get Tryz.func22 rfl
@[simp] theorem call22:cP 22:=enters func22 rfl rfl
@[simp] theorem func24:gP 24 Tryz.f24:=get Tryz.func24 rfl
@[simp] theorem call24:cP 24:=enters func24 rfl rfl
@[simp] theorem func25:gP 25 Tryz.f25:=get Tryz.func25 rfl
@[simp] theorem func29:gP 29 Tryz.f29:=get Tryz.func29 rfl
@[simp] theorem func30:gP 30 Tryz.f30:=get Tryz.func30 rfl
@[simp] theorem call30:cP 30:=enters func30 rfl rfl
@[simp] theorem func31:gP 31 Tryz.f31:=get Tryz.func31 rfl
@[simp] theorem call31:cP 31:=enters func31 rfl rfl
@[simp] theorem func32:gP 32 Tryz.f32:=get Tryz.func32 rfl
@[simp] theorem call32:cP 32:=enters func32 rfl rfl
@[simp] theorem func33:gP 33 Tryz.f33:=get Tryz.func33 rfl
@[simp] theorem call33:cP 33:=enters func33 rfl rfl
@[simp] theorem func34:gP 34 Tryz.f34:=get Tryz.func34 rfl
@[simp] theorem func36:gP 36 Tryz.f36:=get Tryz.func36 rfl
@[simp] theorem call36:cP 36:=enters func36 rfl rfl
@[simp] theorem func37:gP 37 Tryz.f37:=get Tryz.func37 rfl
@[simp] theorem call37:cP 37:=enters func37 rfl rfl
@[simp] theorem func44:gP 44 Tryz.f44:=get Tryz.func44 rfl
@[simp] theorem func47:gP 47 Tryz.f47:=get Tryz.func47 rfl
@[simp] theorem call47:cP 47:=enters func47 rfl rfl
@[simp] theorem func48:gP 48 Tryz.f48:=get Tryz.func48 rfl
@[simp] theorem call48:cP 48:=enters func48 rfl rfl
@[simp] theorem func49:gP 49 Tryz.f49:=get Tryz.func49 rfl
@[simp] theorem call49:cP 49:=enters func49 rfl rfl
@[simp] theorem func50:gP 50 Tryz.f50:=get Tryz.func50 rfl
@[simp] theorem call50:cP 50:=enters func50 rfl rfl
@[simp] theorem func51:gP 51 Tryz.f51:=get Tryz.func51 rfl
@[simp] theorem call51:cP 51:=enters func51 rfl rfl
@[simp] theorem func52:gP 52 Tryz.f52:=get Tryz.func52 rfl
@[simp] theorem call52:cP 52:=enters func52 rfl rfl
@[simp] theorem func53:gP 53 Tryz.f53:=get Tryz.func53 rfl
@[simp] theorem call53:cP 53:=enters func53 rfl rfl
@[simp] theorem func70:gP 70 Tryz.f70:=get Tryz.func70 rfl
@[simp] theorem call70:cP 70:=enters func70 rfl rfl
@[simp] theorem func71:gP 71 Tryz.f71:=get Tryz.func71 rfl
@[simp] theorem call71:cP 71:=enters func71 rfl rfl
@[simp] theorem func72:gP 72 Tryz.f72:=get Tryz.func72 rfl
@[simp] theorem call72:cP 72:=enters func72 rfl rfl
@[simp] theorem func73:gP 73 Tryz.f73:=get Tryz.func73 rfl
@[simp] theorem call73:cP 73:=enters func73 rfl rfl
@[simp] theorem func74:gP 74 Tryz.f74:=get Tryz.func74 rfl
@[simp] theorem call74:cP 74:=enters func74 rfl rfl
@[simp] theorem func75:gP 75 Tryz.f75:=get Tryz.func75 rfl
@[simp] theorem func85:gP 85 Tryz.f85:=get Tryz.func85 rfl
@[simp] theorem call85:cP 85:=enters func85 rfl rfl
@[simp] theorem func86:gP 86 Tryz.f86:=get Tryz.func86 rfl
@[simp] theorem call86:cP 86:=enters func86 rfl rfl
@[simp] theorem func87:gP 87 Tryz.f87:=get Tryz.func87 rfl
@[simp] theorem call87:cP 87:=enters func87 rfl rfl
@[simp] theorem func88:gP 88 Tryz.f88:=get Tryz.func88 rfl
@[simp] theorem call88:cP 88:=enters func88 rfl rfl
@[simp] theorem func89:gP 89 Tryz.f89:=get Tryz.func89 rfl
@[simp] theorem call89:cP 89:=enters func89 rfl rfl
@[simp] theorem func90:gP 90 Tryz.f90:=get Tryz.func90 rfl
@[simp] theorem call90:cP 90:=enters func90 rfl rfl
@[simp] theorem func91:gP 91 Tryz.f91:=get Tryz.func91 rfl
@[simp] theorem call91:cP 91:=enters func91 rfl rfl
@[simp] theorem func92:gP 92 Tryz.f92:=get Tryz.func92 rfl
@[simp] theorem call92:cP 92:=enters func92 rfl rfl
@[simp] theorem func93:gP 93 Tryz.f93:=get Tryz.func93 rfl
@[simp] theorem call93:cP 93:=enters func93 rfl rfl
@[simp] theorem func113:gP 113 Tryz.f113:=get Tryz.func113 rfl
@[simp] theorem call113:cP 113:=enters func113 rfl rfl
@[simp] theorem func114:gP 114 Tryz.f114:=get Tryz.func114 rfl
@[simp] theorem call114:cP 114:=enters func114 rfl rfl
@[simp] theorem func115:gP 115 Tryz.f115:=get Tryz.func115 rfl
@[simp] theorem call115:cP 115:=enters func115 rfl rfl
@[simp] theorem func116:gP 116 Tryz.f116:=get Tryz.func116 rfl
@[simp] theorem func117:gP 117 Tryz.f117:=get Tryz.func117 rfl
@[simp] theorem func118:gP 118 Tryz.f118:=get Tryz.func118 rfl
@[simp] theorem func119:gP 119 Tryz.f119:=get Tryz.func119 rfl
@[simp] theorem call119:cP 119:=enters func119 rfl rfl
@[simp] theorem func120:gP 120 Tryz.f120:=get Tryz.func120 rfl
@[simp] theorem call120:cP 120:=enters func120 rfl rfl
@[simp] theorem func121:gP 121 Tryz.f121:=get Tryz.func121 rfl
@[simp] theorem func122:gP 122 Tryz.f122:=get Tryz.func122 rfl
@[simp] theorem call122:cP 122:=enters func122 rfl rfl
@[simp] theorem func123:gP 123 Tryz.f123:=get Tryz.func123 rfl
@[simp] theorem func124:gP 124 Tryz.f124:=get Tryz.func124 rfl
@[simp] theorem func125:gP 125 Tryz.f125:=get Tryz.func125 rfl
@[simp] theorem call125:cP 125:=enters func125 rfl rfl
@[simp] theorem func126:gP 126 Tryz.f126:=get Tryz.func126 rfl
@[simp] theorem call126:cP 126:=enters func126 rfl rfl
@[simp] theorem func127:gP 127 Tryz.f127:=get Tryz.func127 rfl
@[simp] theorem func128:gP 128 Tryz.f128:=get Tryz.func128 rfl
@[simp] theorem call128:cP 128:=enters func128 rfl rfl
@[simp] theorem func132:gP 132 Tryz.f132:=get Tryz.func132 rfl
@[simp] theorem call132:cP 132:=enters func132 rfl rfl
@[simp] theorem func133:gP 133 Tryz.f133:=get Tryz.func133 rfl
@[simp] theorem call133:cP 133:=enters func133 rfl rfl
@[simp] theorem func134:gP 134 Tryz.f134:=get Tryz.func134 rfl
@[simp] theorem call134:cP 134:=enters func134 rfl rfl
@[simp] theorem func135:gP 135 Tryz.f135:=get Tryz.func135 rfl
@[simp] theorem call135:cP 135:=enters func135 rfl rfl
@[simp] theorem func136:gP 136 Tryz.f136:=get Tryz.func136 rfl
@[simp] theorem call136:cP 136:=enters func136 rfl rfl
@[simp] theorem func144:gP 144 Tryz.f144:=get Tryz.func144 rfl
@[simp] theorem call144:cP 144:=enters func144 rfl rfl
@[simp] theorem func146:gP 146 Tryz.f146:=get Tryz.func146 rfl
@[simp] theorem call146:cP 146:=enters func146 rfl rfl
@[simp] theorem func155:gP 155 Tryz.f155:=get Tryz.func155 rfl
@[simp] theorem call155:cP 155:=enters func155 rfl rfl
@[simp] theorem func156:gP 156 Tryz.f156:=get Tryz.func156 rfl
@[simp] theorem call156:cP 156:=enters func156 rfl rfl
@[simp] theorem func157:gP 157 Tryz.f157:=get Tryz.func157 rfl
@[simp] theorem call157:cP 157:=enters func157 rfl rfl
@[simp] theorem func158:gP 158 Tryz.f158:=get Tryz.func158 rfl
@[simp] theorem call158:cP 158:=enters func158 rfl rfl
@[simp] theorem func159:gP 159 Tryz.f159:=get Tryz.func159 rfl
@[simp] theorem call159:cP 159:=enters func159 rfl rfl
@[simp] theorem func160:gP 160 Tryz.f160:=get Tryz.func160 rfl
@[simp] theorem call160:cP 160:=enters func160 rfl rfl
@[simp] theorem func161:gP 161 Tryz.f161:=get Tryz.func161 rfl
@[simp] theorem func162:gP 162 Tryz.f162:=get Tryz.func162 rfl
@[simp] theorem func163:gP 163 Tryz.f163:=get Tryz.func163 rfl
@[simp] theorem call163:cP 163:=enters func163 rfl rfl
@[simp] theorem func164:gP 164 Tryz.f164:=get Tryz.func164 rfl
@[simp] theorem func165:gP 165 Tryz.f165:=get Tryz.func165 rfl
@[simp] theorem func166:gP 166 Tryz.f166:=get Tryz.func166 rfl
@[simp] theorem func167:gP 167 Tryz.f167:=get Tryz.func167 rfl
@[simp] theorem func168:gP 168 Tryz.f168:=get Tryz.func168 rfl
@[simp] theorem func169:gP 169 Tryz.f169:=get Tryz.func169 rfl
@[simp] theorem func170:gP 170 Tryz.f170:=get Tryz.func170 rfl
@[simp] theorem func171:gP 171 Tryz.f171:=get Tryz.func171 rfl
@[simp] theorem func172:gP 172 Tryz.f172:=get Tryz.func172 rfl
@[simp] theorem func173:gP 173 Tryz.f173:=get Tryz.func173 rfl
@[simp] theorem func174:gP 174 Tryz.f174:=get Tryz.func174 rfl
@[simp] theorem func175:gP 175 Tryz.f175:=get Tryz.func175 rfl
@[simp] theorem call175:cP 175:=enters func175 rfl rfl
@[simp] theorem func176:gP 176 Tryz.f176:=get Tryz.func176 rfl
@[simp] theorem call176:cP 176:=enters func176 rfl rfl
@[simp] theorem func177:gP 177 Tryz.f177:=get Tryz.func177 rfl
@[simp] theorem call177:cP 177:=enters func177 rfl rfl
@[simp] theorem func178:gP 178 Tryz.f178:=get Tryz.func178 rfl
@[simp] theorem call178:cP 178:=enters func178 rfl rfl
@[simp] theorem func181:gP 181 Tryz.f181:=get Tryz.func181 rfl
@[simp] theorem call181:cP 181:=enters func181 rfl rfl
@[simp] theorem func185:gP 185 Tryz.f185:=get Tryz.func185 rfl
@[simp] theorem call185:cP 185:=enters func185 rfl rfl
@[simp] theorem func186:gP 186 Tryz.f186:=get Tryz.func186 rfl
@[simp] theorem call186:cP 186:=enters func186 rfl rfl
@[simp] theorem func187:gP 187 Tryz.f187:=get Tryz.func187 rfl
@[simp] theorem call187:cP 187:=enters func187 rfl rfl
@[simp] theorem func188:gP 188 Tryz.f188:=get Tryz.func188 rfl
@[simp] theorem call188:cP 188:=enters func188 rfl rfl
@[simp] theorem func189:gP 189 Tryz.f189:=get Tryz.func189 rfl
@[simp] theorem call189:cP 189:=enters func189 rfl rfl
@[simp] theorem func190:gP 190 Tryz.f190:=get Tryz.func190 rfl
@[simp] theorem func191:gP 191 Tryz.f191:=get Tryz.func191 rfl
@[simp] theorem func192:gP 192 Tryz.f192:=get Tryz.func192 rfl
@[simp] theorem func193:gP 193 Tryz.f193:=get Tryz.func193 rfl
@[simp] theorem func194:gP 194 Tryz.f194:=get Tryz.func194 rfl
@[simp] theorem func195:gP 195 Tryz.f195:=get Tryz.func195 rfl
@[simp] theorem func196:gP 196 Tryz.f196:=get Tryz.func196 rfl
@[simp] theorem call196:cP 196:=enters func196 rfl rfl
@[simp] theorem func197:gP 197 Tryz.f197:=get Tryz.func197 rfl
@[simp] theorem call197:cP 197:=enters func197 rfl rfl
@[simp] theorem func198:gP 198 Tryz.f198:=get Tryz.func198 rfl
@[simp] theorem call198:cP 198:=enters func198 rfl rfl
@[simp] theorem func199:gP 199 Tryz.f199:=get Tryz.func199 rfl
@[simp] theorem call199:cP 199:=enters func199 rfl rfl
@[simp] theorem func200:gP 200 Tryz.f200:=get Tryz.func200 rfl
@[simp] theorem func207:gP 207 Tryz.f207:=get Tryz.func207 rfl
@[simp] theorem call207:cP 207:=enters func207 rfl rfl
@[simp] theorem func215:gP 215 Tryz.f215:=get Tryz.func215 rfl
@[simp] theorem call215:cP 215:=enters func215 rfl rfl
@[simp] theorem func216:gP 216 Tryz.f216:=get Tryz.func216 rfl
@[simp] theorem func217:gP 217 Tryz.f217:=get Tryz.func217 rfl
@[simp] theorem func218:gP 218 Tryz.f218:=get Tryz.func218 rfl
@[simp] theorem func219:gP 219 Tryz.f219:=get Tryz.func219 rfl
@[simp] theorem func220:gP 220 Tryz.f220:=get Tryz.func220 rfl
@[simp] theorem func221:gP 221 Tryz.f221:=get Tryz.func221 rfl
@[simp] theorem func222:gP 222 Tryz.f222:=get Tryz.func222 rfl
@[simp] theorem func223:gP 223 Tryz.f223:=get Tryz.func223 rfl
@[simp] theorem func224:gP 224 Tryz.f224:=get Tryz.func224 rfl
@[simp] theorem func225:gP 225 Tryz.f225:=get Tryz.func225 rfl
@[simp] theorem func226:gP 226 Tryz.f226:=get Tryz.func226 rfl
@[simp] theorem func227:gP 227 Tryz.f227:=get Tryz.func227 rfl
@[simp] theorem func228:gP 228 Tryz.f228:=get Tryz.func228 rfl
@[simp] theorem func229:gP 229 Tryz.f229:=get Tryz.func229 rfl
@[simp] theorem func230:gP 230 Tryz.f230:=get Tryz.func230 rfl
@[simp] theorem func231:gP 231 Tryz.f231:=get Tryz.func231 rfl
@[simp] theorem func232:gP 232 Tryz.f232:=get Tryz.func232 rfl
@[simp] theorem call232:cP 232:=enters func232 rfl rfl
@[simp] theorem func233:gP 233 Tryz.f233:=get Tryz.func233 rfl
@[simp] theorem call233:cP 233:=enters func233 rfl rfl
@[simp] theorem func234:gP 234 Tryz.f234:=get Tryz.func234 rfl
@[simp] theorem call234:cP 234:=enters func234 rfl rfl
@[simp] theorem func235:gP 235 Tryz.f235:=get Tryz.func235 rfl
@[simp] theorem func236:gP 236 Tryz.f236:=get Tryz.func236 rfl
@[simp] theorem func237:gP 237 Tryz.f237:=get Tryz.func237 rfl
@[simp] theorem func238:gP 238 Tryz.f238:=get Tryz.func238 rfl
@[simp] theorem func241:gP 241 Tryz.f241:=get Tryz.func241 rfl
@[simp] theorem func244:gP 244 Tryz.f244:=get Tryz.func244 rfl
@[simp] theorem call244:cP 244:=enters func244 rfl rfl
@[simp] theorem func247:gP 247 Tryz.f247:=get Tryz.func247 rfl
@[simp] theorem call247:cP 247:=enters func247 rfl rfl
@[simp] theorem func249:gP 249 Tryz.f249:=get Tryz.func249 rfl
@[simp] theorem func250:gP 250 Tryz.f250:=get Tryz.func250 rfl
@[simp] theorem func251:gP 251 Tryz.f251:=get Tryz.func251 rfl
@[simp] theorem func252:gP 252 Tryz.f252:=get Tryz.func252 rfl
@[simp] theorem func253:gP 253 Tryz.f253:=get Tryz.func253 rfl
@[simp] theorem func254:gP 254 Tryz.f254:=get Tryz.func254 rfl
@[simp] theorem func255:gP 255 Tryz.f255:=get Tryz.func255 rfl
@[simp] theorem func256:gP 256 Tryz.f256:=get Tryz.func256 rfl
@[simp] theorem func257:gP 257 Tryz.f257:=get Tryz.func257 rfl
@[simp] theorem func258:gP 258 Tryz.f258:=get Tryz.func258 rfl
@[simp] theorem func259:gP 259 Tryz.f259:=get Tryz.func259 rfl
@[simp] theorem func260:gP 260 Tryz.f260:=get Tryz.func260 rfl
@[simp] theorem func263:gP 263 Tryz.f263:=get Tryz.func263 rfl
@[simp] theorem func264:gP 264 Tryz.f264:=get Tryz.func264 rfl
@[simp] theorem func265:gP 265 Tryz.f265:=get Tryz.func265 rfl
@[simp] theorem func266:gP 266 Tryz.f266:=get Tryz.func266 rfl
@[simp] theorem func267:gP 267 Tryz.f267:=get Tryz.func267 rfl
@[simp] theorem func268:gP 268 Tryz.f268:=get Tryz.func268 rfl
@[simp] theorem func269:gP 269 Tryz.f269:=get Tryz.func269 rfl
@[simp] theorem func270:gP 270 Tryz.f270:=get Tryz.func270 rfl
@[simp] theorem func271:gP 271 Tryz.f271:=get Tryz.func271 rfl
@[simp] theorem func272:gP 272 Tryz.f272:=get Tryz.func272 rfl
@[simp] theorem func273:gP 273 Tryz.f273:=get Tryz.func273 rfl
@[simp] theorem func274:gP 274 Tryz.f274:=get Tryz.func274 rfl
@[simp] theorem func275:gP 275 Tryz.f275:=get Tryz.func275 rfl
@[simp] theorem func276:gP 276 Tryz.f276:=get Tryz.func276 rfl
@[simp] theorem func291:gP 291 Tryz.f291:=get Tryz.func291 rfl
@[simp] theorem func299:gP 299 Tryz.f299:=get Tryz.func299 rfl
@[simp] theorem func300:gP 300 Tryz.f300:=get Tryz.func300 rfl
@[simp] theorem func301:gP 301 Tryz.f301:=get Tryz.func301 rfl
@[simp] theorem func302:gP 302 Tryz.f302:=get Tryz.func302 rfl
@[simp] theorem func310:gP 310 Tryz.f310:=get Tryz.func310 rfl
@[simp] theorem call310:cP 310:=enters func310 rfl rfl
@[simp] theorem func311:gP 311 Tryz.f311:=get Tryz.func311 rfl
@[simp] theorem call311:cP 311:=enters func311 rfl rfl
@[simp] theorem func312:gP 312 Tryz.f312:=get Tryz.func312 rfl
@[simp] theorem call312:cP 312:=enters func312 rfl rfl
@[simp] theorem func313:gP 313 Tryz.f313:=get Tryz.func313 rfl
@[simp] theorem call313:cP 313:=enters func313 rfl rfl
@[simp] theorem func314:gP 314 Tryz.f314:=get Tryz.func314 rfl
@[simp] theorem call314:cP 314:=enters func314 rfl rfl
@[simp] theorem func315:gP 315 Tryz.f315:=get Tryz.func315 rfl
@[simp] theorem call315:cP 315:=enters func315 rfl rfl
@[simp] theorem func316:gP 316 Tryz.f316:=get Tryz.func316 rfl
@[simp] theorem call316:cP 316:=enters func316 rfl rfl
@[simp] theorem func317:gP 317 Tryz.f317:=get Tryz.func317 rfl
@[simp] theorem call317:cP 317:=enters func317 rfl rfl
@[simp] theorem func38:prog.funcs[38]? =some qm:=by rw[Eb,lN,Tryz.func38];rfl
@[simp] theorem call38:cP 38:=enters func38 rfl rfl
@[simp] theorem func39:prog.funcs[39]? =some jM:=by rw[Eb,lN,Tryz.func39];rfl
@[simp] theorem call39:cP 39:=enters func39 rfl rfl
end Tq
