/- All functions of the program, typed. No condition. -/
import Derived.Test.YtdhhcmdofnjhiaaGf1
