/- What the printed texts lean on. -/
import Derived.Test.YtlfmafebmnggeaaHandArr
import Derived.Test.YtlfmafebmnggeaaPrinty0
import Derived.Test.YtlfmafebmnggeaaPrinty1
import Derived.Test.YtlfmafebmnggeaaPrinty2
import Derived.Test.YtlfmafebmnggeaaHandIs
import Derived.Test.YtlfmafebmnggeaaHandRoot
import Derived.Test.YtlfmafebmnggeaaHandIsRoot
